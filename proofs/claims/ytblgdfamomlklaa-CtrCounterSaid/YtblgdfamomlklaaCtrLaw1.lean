/- CtrCounter: the walk. -/
import Derived.Test.YtblgdfamomlklaaCtrCounter
import Derived.Test.YtblgdfamomlklaaEqArr
namespace Go.Proofs.Ytblgdfamomlklaa
open Go.RowKit

set_option maxRecDepth 100000 in
set_option maxHeartbeats 1000000 in
theorem counter_walk (x : Nat) (hx : x < 18446744073709551616) (w : World) : Calls Try.prog 3 #[.int .u64 x] w fun e w' => e = .returned (.bool true) ∧ w.grownBy w' none := by
  have hk : Try.prog.keyLits 2 24 ((ctrL x).map bval) = some ((ctrL x).map litB) :=
    lits_arr (n := 16) (k := 1) Try.underlying24 (by kernel_rfl) (by kernel_rfl) _ rfl (fun m hm => lits_byte Try.underlying5 m hm)
  have hq : ∀ w : World, (binOp .eql 24 (.agg (ctrC x)) (.agg (ctrC x))).run Try.prog w = .ok (.bool true) w := fun w => by
    have := (eql_lits (P := Try.prog) (t := 24) (m := 5) (D := 2) (by decide) (by kernel_rfl) (l := ctrL x) (r := ctrL x) (by simp [Value.formed, Try.underlying24]; kernel_rfl) (by simp [Value.formed, Try.underlying24]; kernel_rfl) hk hk w).1
    simpa [ctrC] using this
  have hm : Try.prog.eqGuardType Try.prog.depth 24 = false := by kernel_rfl
  go_enter Try.func3, Try.ntmps3
  go_wp2_with fail
  refine (counter_n x hx _).mono ?_
  rintro e w1 ⟨rfl, g1⟩
  go_wp2_with fail
  refine (refCounter_n x hx _).mono ?_
  rintro e w2 ⟨rfl, g2⟩
  go_wp2_with fail
  go_ret
  exact ⟨rfl, grownBy_trans g1 g2⟩

end Go.Proofs.Ytblgdfamomlklaa
