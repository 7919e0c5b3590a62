/- aes: Inverse, turn, Sub, Unsub; the document's. -/
import Derived.Test.YtlnmglddialhjaaAesMul
namespace Go.Proofs.Ytlnmglddialhjaa
open Go.RowKit

theorem prod_i (x y : Int) (a b : UInt8) (w : World) (hx : (a.toNat : Int) = x) (hy : (b.toNat : Int) = y) :
    Calls Try.prog 14 #[.int .u8 x, .int .u8 y] w fun e w' => e = .returned (.int .u8 ((am a b).toNat : Nat)) ∧ w = w' := by
  subst hx; subst hy
  rw [am_toNat]
  exact prodN_any _ _ _ a.toNat_lt b.toNat_lt
theorem refProd_i (x y : Int) (a b : UInt8) (w : World) (hx : (a.toNat : Int) = x) (hy : (b.toNat : Int) = y) :
    Calls Try.prog 15 #[.int .u8 x, .int .u8 y] w fun e w' => e = .returned (.int .u8 ((am a b).toNat : Nat)) ∧ w = w' := by
  subst hx; subst hy
  rw [am_toNat]
  exact refProdN_any _ _ _ a.toNat_lt b.toNat_lt
theorem xor_u8 (a b : UInt8) : bits .xor .u8 (a.toNat : Int) (b.toNat : Int) = ((a ^^^ b).toNat : Int) := by
  rw [xor_val _ _ a.toNat_lt b.toNat_lt, UInt8.toNat_xor]
theorem u8_beq (a b : UInt8) : ((a.toNat : Int) == (b.toNat : Int)) = decide (a = b) := by
  rw [Bool.eq_iff_iff, beq_iff_eq, decide_eq_true_iff]
  constructor
  · intro h; exact UInt8.toNat_inj.1 (by omega)
  · rintro rfl; rfl
theorem u8_bne (a b : UInt8) : ((a.toNat : Int) != (b.toNat : Int)) = !decide (a = b) := by
  rw [← u8_beq]; rfl

set_option maxHeartbeats 400000 in
theorem inverse_i (x : Int) (a : UInt8) (w : World) (hx : (a.toNat : Int) = x) :
    Calls Try.prog 16 #[.int .u8 x] w fun e w' => e = .returned (.int .u8 ((ainv a).toNat : Nat)) ∧ w = w' := by
  subst hx
  go_enter Try.func16, Try.ntmps16
  go_wp2
  go_loop [0, 3, 4] (fun va vp vi => ∃ (k : Nat) (x p : UInt8), k ≤ 7 ∧ va = .int .u8 (x.toNat : Int) ∧ vp = .int .u8 (p.toNat : Int) ∧ vi = .int .i64 k ∧ ainvL (7 - k) p x = ainv a) (fun _ _ vi => 7 - (intOf vi).toNat)
  case atStart => exact ⟨0, a, 1, by omega, rfl, rfl, rfl, rfl⟩
  case round =>
    obtain ⟨k, x, p, hk, rfl, rfl, rfl, hm⟩ := hrel
    have HM := Lib.hid hm
    clear hm
    by_cases hk8 : k < 7
    · go_wp2_with fail
      refine (prod_i _ _ x x _ rfl rfl).mono ?_
      rintro e w' ⟨rfl, rfl⟩
      go_wp2_with fail
      refine (prod_i _ _ p (am x x) _ rfl rfl).mono ?_
      rintro e w' ⟨rfl, rfl⟩
      go_wp2_with fail
      go_round
      case rel => exact ⟨k + 1, am x x, am p (am x x), by omega, rfl, rfl, by go_num, by have := HM.out; rw [show 7 - k = (7 - (k + 1)) + 1 from by omega] at this; exact this⟩
      case measure => simp [intOf]; omega
    · obtain rfl : k = 7 := by omega
      have hp : p = ainv a := HM.out
      subst hp
      go_wp2_with fail
      go_ret
      exact ⟨rfl, rfl⟩

set_option maxHeartbeats 400000 in
theorem refInverse_i (x : Int) (a : UInt8) (w : World) (hx : (a.toNat : Int) = x) :
    Calls Try.prog 17 #[.int .u8 x] w fun e w' => e = .returned (.int .u8 ((ainv a).toNat : Nat)) ∧ w = w' := by
  subst hx
  go_enter Try.func17, Try.ntmps17
  go_wp2
  go_loop [0, 3, 4] (fun va vp vi => ∃ (k : Nat) (x p : UInt8), k ≤ 7 ∧ va = .int .u8 (x.toNat : Int) ∧ vp = .int .u8 (p.toNat : Int) ∧ vi = .int .i64 k ∧ ainvL (7 - k) p x = ainv a) (fun _ _ vi => 7 - (intOf vi).toNat)
  case atStart => exact ⟨0, a, 1, by omega, rfl, rfl, rfl, rfl⟩
  case round =>
    obtain ⟨k, x, p, hk, rfl, rfl, rfl, hm⟩ := hrel
    have HM := Lib.hid hm
    clear hm
    by_cases hk8 : k < 7
    · go_wp2_with fail
      refine (refProd_i _ _ x x _ rfl rfl).mono ?_
      rintro e w' ⟨rfl, rfl⟩
      go_wp2_with fail
      refine (refProd_i _ _ p (am x x) _ rfl rfl).mono ?_
      rintro e w' ⟨rfl, rfl⟩
      go_wp2_with fail
      go_round
      case rel => exact ⟨k + 1, am x x, am p (am x x), by omega, rfl, rfl, by go_num, by have := HM.out; rw [show 7 - k = (7 - (k + 1)) + 1 from by omega] at this; exact this⟩
      case measure => simp [intOf]; omega
    · obtain rfl : k = 7 := by omega
      have hp : p = ainv a := HM.out
      subst hp
      go_wp2_with fail
      go_ret
      exact ⟨rfl, rfl⟩

/-- the bits of a byte turned to the left -/
def rotN (k x : Nat) : Nat := (x * 2 ^ k % 256) ||| (x / 2 ^ (8 - k))
theorem rotN_lt {k x : Nat} (hx : x < 256) (hk : k ≤ 8) : rotN k x < 256 := by
  unfold rotN
  refine Nat.or_lt_two_pow (n := 8) (by omega) ?_
  have := Nat.div_le_self x (2 ^ (8 - k))
  omega
set_option maxHeartbeats 400000 in
theorem turn_any (x k : Nat) (hx : x < 256) (hk : k = 1 ∨ k = 2 ∨ k = 3 ∨ k = 4 ∨ k = 6) (w : World) :
    Calls Try.prog 51 #[.int .u8 x, .int .u64 k] w fun e w' => e = .returned (.int .u8 (rotN k x : Nat)) ∧ w = w' := by
  have h1 := u8_or_nat (x * 2 ^ k % 256) (x / 2 ^ (8 - k)) (by omega) (by have := Nat.div_le_self x (2 ^ (8 - k)); omega)
  have H1 := Lib.hid h1
  clear h1
  rcases hk with rfl | rfl | rfl | rfl | rfl
  all_goals
    go_enter Try.func51, Try.ntmps51
    go_wp2
    go_ret
    refine ⟨congrArg Ending.returned (congrArg (Value.int .u8) ?_), rfl⟩
    have := H1.out
    simpa [rotN] using this

end Go.Proofs.Ytlnmglddialhjaa
