/- Guarded operations in a region that draws its order: one value either way. -/
import Derived.Test.YtfboddnpkaiifaaRegS
namespace Go.Proofs.Ytfboddnpkaiifaa
open Go.RowKit

/-- the value of what is guarded: none if p | if not p -/
def gvF (p : Bool) (v : Value) : Value := match p with | false => v | true => undef
def gvT (p : Bool) (v : Value) : Value := match p with | true => v | false => undef
@[simp] theorem gvF_false (v : Value) : gvF false v = v := rfl
@[simp] theorem gvT_true (v : Value) : gvT true v = v := rfl

section
variable {P : Program} {ops : Array Oper} {S : World → Prop}
theorem YS.guardF {o : Oper} {v : Value} {a : Act} (p : Bool) (h : p = false → YS P ops S o v a) (h2 : p = true → Region.wanted o (yielded ops a.tmps) = false) : YS P ops S o (gvF p v) a := by
  cases p
  · exact h rfl
  · exact .inr ⟨h2 rfl, rfl⟩
theorem YS.guardT {o : Oper} {v : Value} {a : Act} (p : Bool) (h : p = true → YS P ops S o v a) (h2 : p = false → Region.wanted o (yielded ops a.tmps) = false) : YS P ops S o (gvT p v) a := by
  cases p
  · exact .inr ⟨h2 rfl, rfl⟩
  · exact h rfl
end

end Go.Proofs.Ytfboddnpkaiifaa
