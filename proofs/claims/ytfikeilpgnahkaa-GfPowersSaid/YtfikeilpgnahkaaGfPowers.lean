/- GfPowers: the walk. -/
import Derived.Test.YtfikeilpgnahkaaGfPow
namespace Go.Proofs.Ytfikeilpgnahkaa
open Go.RowKit

set_option maxRecDepth 100000 in
set_option maxHeartbeats 1000000 in
theorem powers_walk (a : UInt8) (n : Int) (w : World) (hn : -9223372036854775808 ≤ n ∧ n ≤ 9223372036854775807) :
    Calls Try.prog 5 #[.int .u8 (a.toNat : Int), .int .i64 n] w fun e w' => e = .returned (.bool true) ∧ w.grownBy w' none := by
  have HN := Lib.hid hn
  clear hn
  go_enter Try.func5, Try.ntmps5
  go_wp2_with fail
  refine (log_i _ a _ rfl).mono ?_
  rintro e w1 ⟨rfl, g1⟩
  go_wp2_with fail
  refine (pow_i _ a n _ rfl HN.out).mono ?_
  rintro e w2 ⟨rfl, g2⟩
  go_wp2_with fail
  refine (refLog_i _ a _ rfl).mono ?_
  rintro e w3 ⟨rfl, rfl⟩
  go_wp2_with fail
  refine (refPow_i _ a n _ rfl HN.out).mono ?_
  rintro e w4 ⟨rfl, rfl⟩
  go_wp2_with fail
  refine (exp_any n _ HN.out).mono ?_
  rintro e w5 ⟨rfl, g5⟩
  go_wp2_with fail
  refine (refExp_any n _ HN.out).mono ?_
  rintro e w6 ⟨rfl, rfl⟩
  go_wp2_with fail
  go_ret
  exact ⟨rfl, grownBy_trans g1 (grownBy_trans g2 g5)⟩

end Go.Proofs.Ytfikeilpgnahkaa
