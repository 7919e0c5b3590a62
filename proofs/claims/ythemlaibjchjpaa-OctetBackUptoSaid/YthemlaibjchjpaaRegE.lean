/- A region that draws its order and makes one call whose answer is told only by letters: helpers for XRegX; a list's beginning handed on. -/
import Derived.Test.YthemlaibjchjpaaRegX
import Derived.Test.YthemlaibjchjpaaRow
import Derived.Test.YthemlaibjchjpaaLent
namespace Go.Proofs.Ythemlaibjchjpaa
open Go.RowKit

section
variable {P : Program}
theorem wp_call_op {o : Oper} {a : Act} {w w1 : World} {K : Act → World → Prop} {Q : Exit → Act → World → Prop} {f : FuncId} {args : Array Value} (h : (execOp a.eval o).run P w = .ok (.enter f args) w1)
    (hc : Calls P f args w1 fun e w' => ∃ v, e = .returned v ∧ K (a.put o.dst v) w') : o.wp P a w K Q := by
  unfold Oper.wp
  rw [h]
  simp only [Oper.upon]
  refine hc.mono ?_
  rintro e w' ⟨v, rfl, hk⟩
  exact hk
theorem wp_val_op {o : Oper} {a : Act} {w w1 : World} {K : Act → World → Prop} {Q : Exit → Act → World → Prop} {v : Value} (h : (execOp a.eval o).run P w = .ok (.value v) w1) (hk : K (a.put o.dst v) w1) : o.wp P a w K Q := by
  unfold Oper.wp
  rw [h, Oper.upon_value]
  exact hk
end

theorem clo_grown (w0 : World) : Clo (fun u => w0.grownBy u none) := fun _ _ h g => grownBy_trans h g

theorem run_pre_op (w : World) (ev : Operand → Value) {o : Oper} (x h : Operand) (ho : o.op = .slice 22 x none (some h) none) (g N c m : Nat) (hx : ev x = .slice (some ⟨g, 0, none⟩) N c) (hh : ev h = .int .i64 (m : Int)) (hm : m ≤ c) :
    (execOp ev o).run Try.prog w = .ok (.value (.slice (some ⟨g, 0, none⟩) m c)) w := by
  have hu : Try.prog.underlying 22 = some (.slice (Try.prog.elem 22)) := by kernel_rfl
  have hz : (sizeOf (Try.prog.elem 22)).run Try.prog w = .ok 1 w := by
    obtain ⟨i, hi, hz, hs, hb⟩ := elB.info
    have he : Try.prog.elem 22 = 5 := by kernel_rfl
    rw [he]
    simp [sizeOf, typeInfo, hi, hs]
  unfold execOp
  simp only [ho, Option.map_some, Option.map_none]
  simp only [Sem.run_bind, run_sliceAt_slice (P := Try.prog) w _ _ _ _ _ hu, hx, hh]
  rw [run_slice_h (P := Try.prog) w _ _ _ _ hu _ _ (by omega) (by omega)]
  simp [hz, sliced, Addr.add]

end Go.Proofs.Ythemlaibjchjpaa
