/- GfElements: the walk. -/
import Derived.Test.YtfikeilpgnahkaaGfInv
import Derived.Test.YtfikeilpgnahkaaOwn
namespace Go.Proofs.Ytfikeilpgnahkaa
open Go.RowKit

set_option maxRecDepth 100000 in
set_option maxHeartbeats 1000000 in
theorem elements_walk (a b : UInt8) (w : World) :
    Calls Try.prog 3 #[.int .u8 (a.toNat : Int), .int .u8 (b.toNat : Int)] w fun e w' => e = .returned (.bool true) ∧ w.grownBy w' none := by
  have hne : ((noughtE a : Int) == 0) = decide (a ≠ 0) := by
    by_cases h : a = 0
    · subst h; rfl
    · rw [noughtE_ne h]; simp [h]
  have h2 : ((a.toNat : Int) != 0) = decide (a ≠ 0) := by
    have := u8_bne a 0
    rw [show ((0 : UInt8).toNat : Int) = 0 from rfl] at this
    rw [this]; simp
  cases hd : decide (a ≠ 0) <;> rw [hd] at hne h2 <;> clear hd
  all_goals
    go_enter Try.func3, Try.ntmps3
    go_wp2_with (first | (go_at_call 19; refine (mul_i _ _ a b _ rfl rfl).mono ?_; rintro e w' ⟨rfl, rfl⟩) | (go_at_call 18; refine (refMul_i _ _ a b _ rfl rfl).mono ?_; rintro e w' ⟨rfl, rfl⟩) | (go_at_call 21; refine (inv_i _ a _ rfl).mono ?_; rintro e w' ⟨rfl, rfl⟩) | (go_at_call 22; refine (div_i _ _ a b _ rfl rfl).mono ?_; rintro e w' ⟨rfl, rfl⟩) | (go_at_call 23; refine (refInv_i _ a _ rfl).mono ?_; rintro e w' ⟨rfl, rfl⟩) | (go_at_call 24; refine (refDiv_i _ _ a b _ rfl rfl).mono ?_; rintro e w' ⟨rfl, rfl⟩) | go_in)
    go_ret
    exact ⟨rfl, by repeat (first | exact World.grownBy.refl _ _ | refine grownBy_al ?_ _)⟩

end Go.Proofs.Ytfikeilpgnahkaa
