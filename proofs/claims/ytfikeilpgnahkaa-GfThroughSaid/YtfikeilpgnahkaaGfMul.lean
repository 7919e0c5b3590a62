/- gf.Mul, and the document's. -/
import Derived.Test.YtfikeilpgnahkaaGfMath
namespace Go.Proofs.Ytfikeilpgnahkaa
open Go.RowKit

theorem and_one (y : Nat) (hy : y < 256) : bits .and .u8 (y : Int) 1 = ((y % 2 : Nat) : Int) := by
  have := u8_and_nat y 1 hy (by omega)
  rw [Nat.and_one_is_mod] at this
  exact this
theorem and_128 (x : Nat) (hx : x < 256) : bits .and .u8 (x : Int) 128 = if x < 128 then 0 else 128 := by
  have := u8_and_nat x 128 hx (by omega)
  have e : ∀ x : Fin 256, (x.val &&& 128 : Nat) = if x.val < 128 then 0 else 128 := by decide +kernel
  have e' := e ⟨x, hx⟩
  simp only at e'
  rw [e'] at this
  rw [show (128 : Int) = ((128 : Nat) : Int) from rfl, this]
  split <;> rfl
theorem xor_val (a b : Nat) (ha : a < 256) (hb : b < 256) : bits .xor .u8 (a : Int) (b : Int) = ((a ^^^ b : Nat) : Int) := u8_xor_nat a b ha hb

theorem xor_29 (x : Nat) (h : bits .xor .u8 ((x * 2 % 256 : Nat) : Int) ((29 : Nat) : Int) = ((x * 2 % 256 ^^^ 29 : Nat) : Int)) (hx : x * 2 % 256 = x * 2 - 256) : bits .xor .u8 ((x : Int) * 2 % 256) 29 = ((x * 2 - 256 ^^^ 29 : Nat) : Int) := by
  rw [← hx, ← h]
  congr 1

set_option maxHeartbeats 400000 in
theorem mulN_any (a b : Nat) (w : World) (ha : a < 256) (hb : b < 256) :
    Calls Try.prog 19 #[.int .u8 a, .int .u8 b] w fun e w' => e = .returned (.int .u8 (gmN a b : Nat)) ∧ w = w' := by
  go_enter Try.func19, Try.ntmps19
  go_wp2
  go_loop [0, 1, 5] (fun va vb vp => ∃ k x y p : Nat, k ≤ 8 ∧ x < 256 ∧ y < 2 ^ k ∧ y < 256 ∧ p < 256 ∧ va = .int .u8 x ∧ vb = .int .u8 y ∧ vp = .int .u8 p ∧ mulL k p x y = gmN a b) (fun _ vb _ => (intOf vb).toNat)
  case atStart => exact ⟨8, a, b, 0, by omega, ha, hb, hb, by omega, rfl, rfl, rfl, rfl⟩
  case round =>
    obtain ⟨k, x, y, p, hk, hx, hyk, hy, hp, rfl, rfl, rfl, hm⟩ := hrel
    have HM := Lib.hid hm
    have HY := Lib.hid hyk
    clear hm hyk
    by_cases hy0 : y = 0
    · subst hy0
      go_wp2
      go_ret
      have := HM.out
      rw [mulL_zero] at this
      exact ⟨by rw [← this]; rfl, rfl⟩
    · have hne : ((y : Int) != 0) = true := by rw [bne_iff_ne]; omega
      obtain ⟨k, rfl⟩ : ∃ k', k = k' + 1 := by
        cases k with
        | zero => have := HY.out; simp at this; exact absurd this hy0
        | succ k => exact ⟨k, rfl⟩
      have hstep := HM.out
      have hyk := HY.out
      rw [Nat.pow_succ] at hyk
      have HYK := Lib.hid hyk
      simp only [mulL] at hstep
      have HS := Lib.hid hstep
      clear hstep hyk
      have b1 := and_one y hy
      have b2 := and_128 x hx
      have x1 := xor_val p x hp hx
      have x2 := xor_val (x * 2 % 256) 29 (by omega) (by omega)
      have X1 := Lib.hid x1
      have X2 := Lib.hid x2
      clear x1 x2
      have hxt := xt_lt hx
      have l1 : p ^^^ x < 256 := Nat.xor_lt_two_pow (n := 8) hp hx
      rcases Nat.mod_two_eq_zero_or_one y with e1 | e1
      all_goals by_cases e2 : x < 128
      all_goals
        rw [e1] at b1
        first | rw [if_pos e2] at b2 | rw [if_neg e2] at b2
        have HE1 := Lib.hid e1
        clear e1
        go_wp2
        go_round
        case measure => simp [intOf]; omega
        case rel =>
          refine ⟨k, xt x, y / 2, (if y % 2 = 1 then p ^^^ x else p), by omega, hxt, by have := HYK.out; omega, by omega, by split <;> assumption, ?_, rfl, ?_, HS.out⟩
          · unfold xt
            first | (rw [if_pos e2]; go_num) | (rw [if_neg e2]; exact congrArg (Value.int .u8) (xor_29 x X2.out (by omega)))
          · rw [HE1.out]
            first | rfl | exact congrArg (Value.int .u8) X1.out

set_option maxHeartbeats 400000 in
theorem refMulN_any (a b : Nat) (w : World) (ha : a < 256) (hb : b < 256) :
    Calls Try.prog 18 #[.int .u8 a, .int .u8 b] w fun e w' => e = .returned (.int .u8 (gmN a b : Nat)) ∧ w = w' := by
  go_enter Try.func18, Try.ntmps18
  go_wp2
  go_loop [0, 1, 5, 6] (fun va vb vp vi => ∃ k x y p : Nat, k ≤ 8 ∧ x < 256 ∧ y < 256 ∧ p < 256 ∧ va = .int .u8 x ∧ vb = .int .u8 y ∧ vp = .int .u8 p ∧ vi = .int .i64 k ∧ mulL (8 - k) p x y = gmN a b) (fun _ _ _ vi => 8 - (intOf vi).toNat)
  case atStart => exact ⟨0, a, b, 0, by omega, ha, hb, by omega, rfl, rfl, rfl, rfl, rfl⟩
  case round =>
    obtain ⟨k, x, y, p, hk, hx, hy, hp, rfl, rfl, rfl, rfl, hm⟩ := hrel
    have HM := Lib.hid hm
    clear hm
    by_cases hk8 : k = 8
    · subst hk8
      go_wp2
      go_ret
      have := HM.out
      simp only [Nat.sub_self, mulL] at this
      exact ⟨by rw [← this]; rfl, rfl⟩
    · have hstep := HM.out
      rw [show 8 - k = (8 - (k + 1)) + 1 from by omega] at hstep
      simp only [mulL] at hstep
      have HS := Lib.hid hstep
      clear hstep
      have x1 := xor_val p x hp hx
      have x2 := xor_val (x * 2 % 256) 29 (by omega) (by omega)
      have X1 := Lib.hid x1
      have X2 := Lib.hid x2
      clear x1 x2
      have hxt := xt_lt hx
      have l1 : p ^^^ x < 256 := Nat.xor_lt_two_pow (n := 8) hp hx
      rcases Nat.mod_two_eq_zero_or_one y with e1 | e1
      all_goals by_cases e2 : x < 128
      all_goals
        have HE1 := Lib.hid e1
        have d1 : ((y : Int) % 2 == 1) = decide (y % 2 = 1) := by rw [Bool.eq_iff_iff]; simp; omega
        have d2 : decide ((128 : Int) ≤ (x : Int)) = decide (128 ≤ x) := by rw [decide_eq_decide]; omega
        first | rw [decide_eq_false (by omega : ¬ y % 2 = 1)] at d1 | rw [decide_eq_true (by omega : y % 2 = 1)] at d1
        first | rw [decide_eq_false (by omega : ¬ 128 ≤ x)] at d2 | rw [decide_eq_true (by omega : 128 ≤ x)] at d2
        clear e1
        go_wp2
        go_round
        case measure => simp [intOf]; omega
        case rel =>
          refine ⟨k + 1, xt x, y / 2, (if y % 2 = 1 then p ^^^ x else p), by omega, hxt, by omega, by split <;> assumption, ?_, rfl, ?_, by go_num, HS.out⟩
          · unfold xt
            first | (rw [if_pos e2]; go_num) | (rw [if_neg e2]; exact congrArg (Value.int .u8) (xor_29 x X2.out (by omega)))
          · rw [HE1.out]
            first | rfl | exact congrArg (Value.int .u8) X1.out

end Go.Proofs.Ytfikeilpgnahkaa
