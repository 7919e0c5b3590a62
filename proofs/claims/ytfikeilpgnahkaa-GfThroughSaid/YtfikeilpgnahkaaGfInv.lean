/- gf: Add, Inv, Div, the methods of Field; the document's. -/
import Derived.Test.YtfikeilpgnahkaaGfMul
namespace Go.Proofs.Ytfikeilpgnahkaa
open Go.RowKit

theorem mul_i (x y : Int) (a b : UInt8) (w : World) (hx : (a.toNat : Int) = x) (hy : (b.toNat : Int) = y) :
    Calls Try.prog 19 #[.int .u8 x, .int .u8 y] w fun e w' => e = .returned (.int .u8 ((gm a b).toNat : Nat)) ∧ w = w' := by
  subst hx; subst hy
  rw [gm_toNat]
  exact mulN_any _ _ _ a.toNat_lt b.toNat_lt
theorem refMul_i (x y : Int) (a b : UInt8) (w : World) (hx : (a.toNat : Int) = x) (hy : (b.toNat : Int) = y) :
    Calls Try.prog 18 #[.int .u8 x, .int .u8 y] w fun e w' => e = .returned (.int .u8 ((gm a b).toNat : Nat)) ∧ w = w' := by
  subst hx; subst hy
  rw [gm_toNat]
  exact refMulN_any _ _ _ a.toNat_lt b.toNat_lt
theorem xor_u8 (a b : UInt8) : bits .xor .u8 (a.toNat : Int) (b.toNat : Int) = ((a ^^^ b).toNat : Int) := by
  rw [xor_val _ _ a.toNat_lt b.toNat_lt, UInt8.toNat_xor]
theorem u8_beq (a b : UInt8) : ((a.toNat : Int) == (b.toNat : Int)) = decide (a = b) := by
  rw [Bool.eq_iff_iff, beq_iff_eq, decide_eq_true_iff]
  constructor
  · intro h; exact UInt8.toNat_inj.1 (by omega)
  · rintro rfl; rfl
theorem u8_bne (a b : UInt8) : ((a.toNat : Int) != (b.toNat : Int)) = !decide (a = b) := by
  rw [← u8_beq]; rfl

set_option maxHeartbeats 400000 in
theorem inv_any (a : UInt8) (w : World) :
    Calls Try.prog 21 #[.int .u8 (a.toNat : Int)] w fun e w' => e = .returned (.tuple #[.int .u8 ((ginv a).toNat : Nat), .int .i64 (noughtE a : Nat)]) ∧ w = w' := by
  by_cases h0 : a = 0
  · subst h0
    rw [ginv_zero]
    show Calls Try.prog 21 #[.int .u8 0] w fun e w' => e = .returned (.tuple #[.int .u8 0, .int .i64 60]) ∧ w = w'
    go_enter Try.func21, Try.ntmps21
    go_wp2
    go_ret2
    exact ⟨rfl, rfl⟩
  · have hne : ((a.toNat : Int) == 0) = false := by have := u8_beq a 0; simp only [h0, decide_false] at this; exact this
    have he : noughtE a = 0 := by simp [noughtE, h0]
    rw [he]
    clear he h0
    go_enter Try.func21, Try.ntmps21
    go_wp2
    go_loop [0, 4, 7] (fun va vp vi => ∃ (k : Nat) (x p : UInt8), k ≤ 7 ∧ va = .int .u8 (x.toNat : Int) ∧ vp = .int .u8 (p.toNat : Int) ∧ vi = .int .i64 k ∧ invL (7 - k) p x = ginv a) (fun _ _ vi => 7 - (intOf vi).toNat)
    case atStart => exact ⟨0, a, 1, by omega, rfl, rfl, rfl, rfl⟩
    case round =>
      obtain ⟨k, x, p, hk, rfl, rfl, rfl, hm⟩ := hrel
      have HM := Lib.hid hm
      clear hm
      by_cases hk8 : k < 7
      · go_wp2_with fail
        refine (mul_i _ _ x x _ rfl rfl).mono ?_
        rintro e w' ⟨rfl, rfl⟩
        go_wp2_with fail
        refine (mul_i _ _ p (gm x x) _ rfl rfl).mono ?_
        rintro e w' ⟨rfl, rfl⟩
        go_wp2_with fail
        go_round
        case rel => exact ⟨k + 1, gm x x, gm p (gm x x), by omega, rfl, rfl, by go_num, by have := HM.out; rw [show 7 - k = (7 - (k + 1)) + 1 from by omega] at this; exact this⟩
        case measure => simp [intOf]; omega
      · obtain rfl : k = 7 := by omega
        have hp : p = ginv a := HM.out
        subst hp
        go_wp2_with fail
        go_ret2
        exact ⟨rfl, rfl⟩

theorem inv_i (x : Int) (a : UInt8) (w : World) (hx : (a.toNat : Int) = x) :
    Calls Try.prog 21 #[.int .u8 x] w fun e w' => e = .returned (.tuple #[.int .u8 ((ginv a).toNat : Nat), .int .i64 (noughtE a : Nat)]) ∧ w = w' := by
  subst hx; exact inv_any a w

set_option maxHeartbeats 400000 in
theorem div_i (x y : Int) (a b : UInt8) (w : World) (hx : (a.toNat : Int) = x) (hy : (b.toNat : Int) = y) :
    Calls Try.prog 22 #[.int .u8 x, .int .u8 y] w fun e w' => e = .returned (.tuple #[.int .u8 ((gm a (ginv b)).toNat : Nat), .int .i64 (noughtE b : Nat)]) ∧ w = w' := by
  subst hx; subst hy
  by_cases h0 : b = 0
  · subst h0
    rw [ginv_zero, gm_zero_right]
    have hc := inv_any 0
    rw [ginv_zero, noughtE_zero] at hc
    have HC := Lib.hid hc
    clear hc
    show Calls Try.prog 22 #[.int .u8 a.toNat, .int .u8 0] w fun e w' => e = .returned (.tuple #[.int .u8 0, .int .i64 60]) ∧ w = w'
    go_enter Try.func22, Try.ntmps22
    go_wp2_with (go_at_call 21; refine (HC.out _).mono ?_; rintro e w' ⟨rfl, rfl⟩)
    go_ret2
    exact ⟨rfl, rfl⟩
  · have hc := inv_any b
    rw [noughtE_ne h0] at hc ⊢
    have HC := Lib.hid hc
    clear hc h0
    go_enter Try.func22, Try.ntmps22
    go_wp2_with (first | (go_at_call 21; refine (HC.out _).mono ?_; rintro e w' ⟨rfl, rfl⟩) | (go_at_call 19; refine (mul_i _ _ a (ginv b) _ rfl rfl).mono ?_; rintro e w' ⟨rfl, rfl⟩))
    go_ret2
    exact ⟨rfl, rfl⟩

set_option maxHeartbeats 400000 in
theorem refInverse_i (x : Int) (a : UInt8) (w : World) (hx : (a.toNat : Int) = x) :
    Calls Try.prog 51 #[.int .u8 x] w fun e w' => e = .returned (.int .u8 ((ginv a).toNat : Nat)) ∧ w = w' := by
  subst hx
  go_enter Try.func51, Try.ntmps51
  go_wp2
  go_loop [0, 3, 4] (fun va vp vi => ∃ (k : Nat) (x p : UInt8), k ≤ 7 ∧ va = .int .u8 (x.toNat : Int) ∧ vp = .int .u8 (p.toNat : Int) ∧ vi = .int .i64 k ∧ invL (7 - k) p x = ginv a) (fun _ _ vi => 7 - (intOf vi).toNat)
  case atStart => exact ⟨0, a, 1, by omega, rfl, rfl, rfl, rfl⟩
  case round =>
    obtain ⟨k, x, p, hk, rfl, rfl, rfl, hm⟩ := hrel
    have HM := Lib.hid hm
    clear hm
    by_cases hk8 : k < 7
    · go_wp2_with fail
      refine (refMul_i _ _ x x _ rfl rfl).mono ?_
      rintro e w' ⟨rfl, rfl⟩
      go_wp2_with fail
      refine (refMul_i _ _ p (gm x x) _ rfl rfl).mono ?_
      rintro e w' ⟨rfl, rfl⟩
      go_wp2_with fail
      go_round
      case rel => exact ⟨k + 1, gm x x, gm p (gm x x), by omega, rfl, rfl, by go_num, by have := HM.out; rw [show 7 - k = (7 - (k + 1)) + 1 from by omega] at this; exact this⟩
      case measure => simp [intOf]; omega
    · obtain rfl : k = 7 := by omega
      have hp : p = ginv a := HM.out
      subst hp
      go_wp2_with fail
      go_ret
      exact ⟨rfl, rfl⟩

set_option maxHeartbeats 400000 in
theorem refInv_i (x : Int) (a : UInt8) (w : World) (hx : (a.toNat : Int) = x) :
    Calls Try.prog 23 #[.int .u8 x] w fun e w' => e = .returned (.tuple #[.int .u8 ((ginv a).toNat : Nat), .int .i64 (noughtE a : Nat)]) ∧ w = w' := by
  subst hx
  by_cases h0 : a = 0
  · subst h0
    rw [ginv_zero, noughtE_zero]
    show Calls Try.prog 23 #[.int .u8 0] w fun e w' => e = .returned (.tuple #[.int .u8 0, .int .i64 60]) ∧ w = w'
    go_enter Try.func23, Try.ntmps23
    go_wp2
    go_ret2
    exact ⟨rfl, rfl⟩
  · have hne : ((a.toNat : Int) == 0) = false := by have := u8_beq a 0; simp only [h0, decide_false] at this; exact this
    rw [noughtE_ne h0]
    clear h0
    go_enter Try.func23, Try.ntmps23
    go_wp2_with (go_at_call 51; refine (refInverse_i _ a _ rfl).mono ?_; rintro e w' ⟨rfl, rfl⟩)
    go_ret2
    exact ⟨rfl, rfl⟩

set_option maxHeartbeats 400000 in
theorem refDiv_i (x y : Int) (a b : UInt8) (w : World) (hx : (a.toNat : Int) = x) (hy : (b.toNat : Int) = y) :
    Calls Try.prog 24 #[.int .u8 x, .int .u8 y] w fun e w' => e = .returned (.tuple #[.int .u8 ((gm a (ginv b)).toNat : Nat), .int .i64 (noughtE b : Nat)]) ∧ w = w' := by
  subst hx; subst hy
  by_cases h0 : b = 0
  · subst h0
    rw [ginv_zero, gm_zero_right, noughtE_zero]
    show Calls Try.prog 24 #[.int .u8 a.toNat, .int .u8 0] w fun e w' => e = .returned (.tuple #[.int .u8 0, .int .i64 60]) ∧ w = w'
    go_enter Try.func24, Try.ntmps24
    go_wp2
    go_ret2
    exact ⟨rfl, rfl⟩
  · have hne : ((b.toNat : Int) == 0) = false := by have := u8_beq b 0; simp only [h0, decide_false] at this; exact this
    rw [noughtE_ne h0]
    clear h0
    go_enter Try.func24, Try.ntmps24
    go_wp2_with (first | (go_at_call 51; refine (refInverse_i _ b _ rfl).mono ?_; rintro e w' ⟨rfl, rfl⟩) | (go_at_call 18; refine (refMul_i _ _ a (ginv b) _ rfl rfl).mono ?_; rintro e w' ⟨rfl, rfl⟩))
    go_ret2
    exact ⟨rfl, rfl⟩

end Go.Proofs.Ytfikeilpgnahkaa
