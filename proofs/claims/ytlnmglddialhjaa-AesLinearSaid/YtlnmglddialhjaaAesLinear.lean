/- The law AesLinear. -/
import Derived.Test.YtlnmglddialhjaaAesNamesL
namespace Go.Proofs.Ytlnmglddialhjaa
open Go.RowKit

theorem or_one (p : UInt8) : bits .or .u8 (p.toNat : Int) 1 = ((p ||| 1).toNat : Int) := by
  have := all256 (p := fun p => bits .or .u8 (p.toNat : Int) 1 == ((p ||| 1).toNat : Int)) (by decide +kernel) p
  simpa using this
theorem or_ne (p : UInt8) : p ||| 1 ≠ 0 := by simp

/-- one byte turned: the sum of both -/
theorem xor_set {s : List UInt8} (hs : s.length = 16) (e : UInt8) : ∀ k, k < 16 → xorL s (s.set k (s.getD k 0 ^^^ e)) = z16.set k e := by
  obtain ⟨x0, x1, x2, x3, x4, x5, x6, x7, x8, x9, x10, x11, x12, x13, x14, x15, rfl⟩ := ex16 hs
  intro k hk
  rcases (by omega : k = 0 ∨ k = 1 ∨ k = 2 ∨ k = 3 ∨ k = 4 ∨ k = 5 ∨ k = 6 ∨ k = 7 ∨ k = 8 ∨ k = 9 ∨ k = 10 ∨ k = 11 ∨ k = 12 ∨ k = 13 ∨ k = 14 ∨ k = 15) with rfl | rfl | rfl | rfl | rfl | rfl | rfl | rfl | rfl | rfl | rfl | rfl | rfl | rfl | rfl | rfl
  · simp [xorL, z16, xxl]
  · simp [xorL, z16, xxl]
  · simp [xorL, z16, xxl]
  · simp [xorL, z16, xxl]
  · simp [xorL, z16, xxl]
  · simp [xorL, z16, xxl]
  · simp [xorL, z16, xxl]
  · simp [xorL, z16, xxl]
  · simp [xorL, z16, xxl]
  · simp [xorL, z16, xxl]
  · simp [xorL, z16, xxl]
  · simp [xorL, z16, xxl]
  · simp [xorL, z16, xxl]
  · simp [xorL, z16, xxl]
  · simp [xorL, z16, xxl]
  · simp [xorL, z16, xxl]
theorem one_ne {e : UInt8} (he : e ≠ 0) : am 2 e ≠ 0 ∧ am 3 e ≠ 0 ∧ am 1 e ≠ 0 := by
  refine ⟨fun h => ?_, fun h => ?_, fun h => ?_⟩ <;> rcases am_eq_zero.1 h with h | h <;> first | exact he h | exact absurd h (by decide)
/-- one byte turned turns its whole column behind Mix, and nothing else -/
theorem mix_one {e : UInt8} (he : e ≠ 0) : ∀ k, k < 16 → ∀ i, i < 4 → ∀ j, j < 4 → ((mixL [2, 3, 1, 1] (z16.set k e)).getD (i * 4 + j) 0 = 0 ↔ ¬ j = k % 4) := by
  obtain ⟨h2, h3, h1⟩ := one_ne he
  intro k hk
  rcases (by omega : k = 0 ∨ k = 1 ∨ k = 2 ∨ k = 3 ∨ k = 4 ∨ k = 5 ∨ k = 6 ∨ k = 7 ∨ k = 8 ∨ k = 9 ∨ k = 10 ∨ k = 11 ∨ k = 12 ∨ k = 13 ∨ k = 14 ∨ k = 15) with rfl | rfl | rfl | rfl | rfl | rfl | rfl | rfl | rfl | rfl | rfl | rfl | rfl | rfl | rfl | rfl
  · have e0 : mixL [2, 3, 1, 1] (z16.set 0 e) = [am 2 e, 0, 0, 0, am 1 e, 0, 0, 0, am 1 e, 0, 0, 0, am 3 e, 0, 0, 0]  := by simp [z16, mixL, am_zero_right]
    rw [e0]
    intro i hi j hj
    match i, hi, j, hj with
    | 0, _, 0, _ => simp [*]
    | 0, _, 1, _ => simp [*]
    | 0, _, 2, _ => simp [*]
    | 0, _, 3, _ => simp [*]
    | 1, _, 0, _ => simp [*]
    | 1, _, 1, _ => simp [*]
    | 1, _, 2, _ => simp [*]
    | 1, _, 3, _ => simp [*]
    | 2, _, 0, _ => simp [*]
    | 2, _, 1, _ => simp [*]
    | 2, _, 2, _ => simp [*]
    | 2, _, 3, _ => simp [*]
    | 3, _, 0, _ => simp [*]
    | 3, _, 1, _ => simp [*]
    | 3, _, 2, _ => simp [*]
    | 3, _, 3, _ => simp [*]
  · have e0 : mixL [2, 3, 1, 1] (z16.set 1 e) = [0, am 2 e, 0, 0, 0, am 1 e, 0, 0, 0, am 1 e, 0, 0, 0, am 3 e, 0, 0]  := by simp [z16, mixL, am_zero_right]
    rw [e0]
    intro i hi j hj
    match i, hi, j, hj with
    | 0, _, 0, _ => simp [*]
    | 0, _, 1, _ => simp [*]
    | 0, _, 2, _ => simp [*]
    | 0, _, 3, _ => simp [*]
    | 1, _, 0, _ => simp [*]
    | 1, _, 1, _ => simp [*]
    | 1, _, 2, _ => simp [*]
    | 1, _, 3, _ => simp [*]
    | 2, _, 0, _ => simp [*]
    | 2, _, 1, _ => simp [*]
    | 2, _, 2, _ => simp [*]
    | 2, _, 3, _ => simp [*]
    | 3, _, 0, _ => simp [*]
    | 3, _, 1, _ => simp [*]
    | 3, _, 2, _ => simp [*]
    | 3, _, 3, _ => simp [*]
  · have e0 : mixL [2, 3, 1, 1] (z16.set 2 e) = [0, 0, am 2 e, 0, 0, 0, am 1 e, 0, 0, 0, am 1 e, 0, 0, 0, am 3 e, 0]  := by simp [z16, mixL, am_zero_right]
    rw [e0]
    intro i hi j hj
    match i, hi, j, hj with
    | 0, _, 0, _ => simp [*]
    | 0, _, 1, _ => simp [*]
    | 0, _, 2, _ => simp [*]
    | 0, _, 3, _ => simp [*]
    | 1, _, 0, _ => simp [*]
    | 1, _, 1, _ => simp [*]
    | 1, _, 2, _ => simp [*]
    | 1, _, 3, _ => simp [*]
    | 2, _, 0, _ => simp [*]
    | 2, _, 1, _ => simp [*]
    | 2, _, 2, _ => simp [*]
    | 2, _, 3, _ => simp [*]
    | 3, _, 0, _ => simp [*]
    | 3, _, 1, _ => simp [*]
    | 3, _, 2, _ => simp [*]
    | 3, _, 3, _ => simp [*]
  · have e0 : mixL [2, 3, 1, 1] (z16.set 3 e) = [0, 0, 0, am 2 e, 0, 0, 0, am 1 e, 0, 0, 0, am 1 e, 0, 0, 0, am 3 e]  := by simp [z16, mixL, am_zero_right]
    rw [e0]
    intro i hi j hj
    match i, hi, j, hj with
    | 0, _, 0, _ => simp [*]
    | 0, _, 1, _ => simp [*]
    | 0, _, 2, _ => simp [*]
    | 0, _, 3, _ => simp [*]
    | 1, _, 0, _ => simp [*]
    | 1, _, 1, _ => simp [*]
    | 1, _, 2, _ => simp [*]
    | 1, _, 3, _ => simp [*]
    | 2, _, 0, _ => simp [*]
    | 2, _, 1, _ => simp [*]
    | 2, _, 2, _ => simp [*]
    | 2, _, 3, _ => simp [*]
    | 3, _, 0, _ => simp [*]
    | 3, _, 1, _ => simp [*]
    | 3, _, 2, _ => simp [*]
    | 3, _, 3, _ => simp [*]
  · have e0 : mixL [2, 3, 1, 1] (z16.set 4 e) = [am 3 e, 0, 0, 0, am 2 e, 0, 0, 0, am 1 e, 0, 0, 0, am 1 e, 0, 0, 0]  := by simp [z16, mixL, am_zero_right]
    rw [e0]
    intro i hi j hj
    match i, hi, j, hj with
    | 0, _, 0, _ => simp [*]
    | 0, _, 1, _ => simp [*]
    | 0, _, 2, _ => simp [*]
    | 0, _, 3, _ => simp [*]
    | 1, _, 0, _ => simp [*]
    | 1, _, 1, _ => simp [*]
    | 1, _, 2, _ => simp [*]
    | 1, _, 3, _ => simp [*]
    | 2, _, 0, _ => simp [*]
    | 2, _, 1, _ => simp [*]
    | 2, _, 2, _ => simp [*]
    | 2, _, 3, _ => simp [*]
    | 3, _, 0, _ => simp [*]
    | 3, _, 1, _ => simp [*]
    | 3, _, 2, _ => simp [*]
    | 3, _, 3, _ => simp [*]
  · have e0 : mixL [2, 3, 1, 1] (z16.set 5 e) = [0, am 3 e, 0, 0, 0, am 2 e, 0, 0, 0, am 1 e, 0, 0, 0, am 1 e, 0, 0]  := by simp [z16, mixL, am_zero_right]
    rw [e0]
    intro i hi j hj
    match i, hi, j, hj with
    | 0, _, 0, _ => simp [*]
    | 0, _, 1, _ => simp [*]
    | 0, _, 2, _ => simp [*]
    | 0, _, 3, _ => simp [*]
    | 1, _, 0, _ => simp [*]
    | 1, _, 1, _ => simp [*]
    | 1, _, 2, _ => simp [*]
    | 1, _, 3, _ => simp [*]
    | 2, _, 0, _ => simp [*]
    | 2, _, 1, _ => simp [*]
    | 2, _, 2, _ => simp [*]
    | 2, _, 3, _ => simp [*]
    | 3, _, 0, _ => simp [*]
    | 3, _, 1, _ => simp [*]
    | 3, _, 2, _ => simp [*]
    | 3, _, 3, _ => simp [*]
  · have e0 : mixL [2, 3, 1, 1] (z16.set 6 e) = [0, 0, am 3 e, 0, 0, 0, am 2 e, 0, 0, 0, am 1 e, 0, 0, 0, am 1 e, 0]  := by simp [z16, mixL, am_zero_right]
    rw [e0]
    intro i hi j hj
    match i, hi, j, hj with
    | 0, _, 0, _ => simp [*]
    | 0, _, 1, _ => simp [*]
    | 0, _, 2, _ => simp [*]
    | 0, _, 3, _ => simp [*]
    | 1, _, 0, _ => simp [*]
    | 1, _, 1, _ => simp [*]
    | 1, _, 2, _ => simp [*]
    | 1, _, 3, _ => simp [*]
    | 2, _, 0, _ => simp [*]
    | 2, _, 1, _ => simp [*]
    | 2, _, 2, _ => simp [*]
    | 2, _, 3, _ => simp [*]
    | 3, _, 0, _ => simp [*]
    | 3, _, 1, _ => simp [*]
    | 3, _, 2, _ => simp [*]
    | 3, _, 3, _ => simp [*]
  · have e0 : mixL [2, 3, 1, 1] (z16.set 7 e) = [0, 0, 0, am 3 e, 0, 0, 0, am 2 e, 0, 0, 0, am 1 e, 0, 0, 0, am 1 e]  := by simp [z16, mixL, am_zero_right]
    rw [e0]
    intro i hi j hj
    match i, hi, j, hj with
    | 0, _, 0, _ => simp [*]
    | 0, _, 1, _ => simp [*]
    | 0, _, 2, _ => simp [*]
    | 0, _, 3, _ => simp [*]
    | 1, _, 0, _ => simp [*]
    | 1, _, 1, _ => simp [*]
    | 1, _, 2, _ => simp [*]
    | 1, _, 3, _ => simp [*]
    | 2, _, 0, _ => simp [*]
    | 2, _, 1, _ => simp [*]
    | 2, _, 2, _ => simp [*]
    | 2, _, 3, _ => simp [*]
    | 3, _, 0, _ => simp [*]
    | 3, _, 1, _ => simp [*]
    | 3, _, 2, _ => simp [*]
    | 3, _, 3, _ => simp [*]
  · have e0 : mixL [2, 3, 1, 1] (z16.set 8 e) = [am 1 e, 0, 0, 0, am 3 e, 0, 0, 0, am 2 e, 0, 0, 0, am 1 e, 0, 0, 0]  := by simp [z16, mixL, am_zero_right]
    rw [e0]
    intro i hi j hj
    match i, hi, j, hj with
    | 0, _, 0, _ => simp [*]
    | 0, _, 1, _ => simp [*]
    | 0, _, 2, _ => simp [*]
    | 0, _, 3, _ => simp [*]
    | 1, _, 0, _ => simp [*]
    | 1, _, 1, _ => simp [*]
    | 1, _, 2, _ => simp [*]
    | 1, _, 3, _ => simp [*]
    | 2, _, 0, _ => simp [*]
    | 2, _, 1, _ => simp [*]
    | 2, _, 2, _ => simp [*]
    | 2, _, 3, _ => simp [*]
    | 3, _, 0, _ => simp [*]
    | 3, _, 1, _ => simp [*]
    | 3, _, 2, _ => simp [*]
    | 3, _, 3, _ => simp [*]
  · have e0 : mixL [2, 3, 1, 1] (z16.set 9 e) = [0, am 1 e, 0, 0, 0, am 3 e, 0, 0, 0, am 2 e, 0, 0, 0, am 1 e, 0, 0]  := by simp [z16, mixL, am_zero_right]
    rw [e0]
    intro i hi j hj
    match i, hi, j, hj with
    | 0, _, 0, _ => simp [*]
    | 0, _, 1, _ => simp [*]
    | 0, _, 2, _ => simp [*]
    | 0, _, 3, _ => simp [*]
    | 1, _, 0, _ => simp [*]
    | 1, _, 1, _ => simp [*]
    | 1, _, 2, _ => simp [*]
    | 1, _, 3, _ => simp [*]
    | 2, _, 0, _ => simp [*]
    | 2, _, 1, _ => simp [*]
    | 2, _, 2, _ => simp [*]
    | 2, _, 3, _ => simp [*]
    | 3, _, 0, _ => simp [*]
    | 3, _, 1, _ => simp [*]
    | 3, _, 2, _ => simp [*]
    | 3, _, 3, _ => simp [*]
  · have e0 : mixL [2, 3, 1, 1] (z16.set 10 e) = [0, 0, am 1 e, 0, 0, 0, am 3 e, 0, 0, 0, am 2 e, 0, 0, 0, am 1 e, 0]  := by simp [z16, mixL, am_zero_right]
    rw [e0]
    intro i hi j hj
    match i, hi, j, hj with
    | 0, _, 0, _ => simp [*]
    | 0, _, 1, _ => simp [*]
    | 0, _, 2, _ => simp [*]
    | 0, _, 3, _ => simp [*]
    | 1, _, 0, _ => simp [*]
    | 1, _, 1, _ => simp [*]
    | 1, _, 2, _ => simp [*]
    | 1, _, 3, _ => simp [*]
    | 2, _, 0, _ => simp [*]
    | 2, _, 1, _ => simp [*]
    | 2, _, 2, _ => simp [*]
    | 2, _, 3, _ => simp [*]
    | 3, _, 0, _ => simp [*]
    | 3, _, 1, _ => simp [*]
    | 3, _, 2, _ => simp [*]
    | 3, _, 3, _ => simp [*]
  · have e0 : mixL [2, 3, 1, 1] (z16.set 11 e) = [0, 0, 0, am 1 e, 0, 0, 0, am 3 e, 0, 0, 0, am 2 e, 0, 0, 0, am 1 e]  := by simp [z16, mixL, am_zero_right]
    rw [e0]
    intro i hi j hj
    match i, hi, j, hj with
    | 0, _, 0, _ => simp [*]
    | 0, _, 1, _ => simp [*]
    | 0, _, 2, _ => simp [*]
    | 0, _, 3, _ => simp [*]
    | 1, _, 0, _ => simp [*]
    | 1, _, 1, _ => simp [*]
    | 1, _, 2, _ => simp [*]
    | 1, _, 3, _ => simp [*]
    | 2, _, 0, _ => simp [*]
    | 2, _, 1, _ => simp [*]
    | 2, _, 2, _ => simp [*]
    | 2, _, 3, _ => simp [*]
    | 3, _, 0, _ => simp [*]
    | 3, _, 1, _ => simp [*]
    | 3, _, 2, _ => simp [*]
    | 3, _, 3, _ => simp [*]
  · have e0 : mixL [2, 3, 1, 1] (z16.set 12 e) = [am 1 e, 0, 0, 0, am 1 e, 0, 0, 0, am 3 e, 0, 0, 0, am 2 e, 0, 0, 0]  := by simp [z16, mixL, am_zero_right]
    rw [e0]
    intro i hi j hj
    match i, hi, j, hj with
    | 0, _, 0, _ => simp [*]
    | 0, _, 1, _ => simp [*]
    | 0, _, 2, _ => simp [*]
    | 0, _, 3, _ => simp [*]
    | 1, _, 0, _ => simp [*]
    | 1, _, 1, _ => simp [*]
    | 1, _, 2, _ => simp [*]
    | 1, _, 3, _ => simp [*]
    | 2, _, 0, _ => simp [*]
    | 2, _, 1, _ => simp [*]
    | 2, _, 2, _ => simp [*]
    | 2, _, 3, _ => simp [*]
    | 3, _, 0, _ => simp [*]
    | 3, _, 1, _ => simp [*]
    | 3, _, 2, _ => simp [*]
    | 3, _, 3, _ => simp [*]
  · have e0 : mixL [2, 3, 1, 1] (z16.set 13 e) = [0, am 1 e, 0, 0, 0, am 1 e, 0, 0, 0, am 3 e, 0, 0, 0, am 2 e, 0, 0]  := by simp [z16, mixL, am_zero_right]
    rw [e0]
    intro i hi j hj
    match i, hi, j, hj with
    | 0, _, 0, _ => simp [*]
    | 0, _, 1, _ => simp [*]
    | 0, _, 2, _ => simp [*]
    | 0, _, 3, _ => simp [*]
    | 1, _, 0, _ => simp [*]
    | 1, _, 1, _ => simp [*]
    | 1, _, 2, _ => simp [*]
    | 1, _, 3, _ => simp [*]
    | 2, _, 0, _ => simp [*]
    | 2, _, 1, _ => simp [*]
    | 2, _, 2, _ => simp [*]
    | 2, _, 3, _ => simp [*]
    | 3, _, 0, _ => simp [*]
    | 3, _, 1, _ => simp [*]
    | 3, _, 2, _ => simp [*]
    | 3, _, 3, _ => simp [*]
  · have e0 : mixL [2, 3, 1, 1] (z16.set 14 e) = [0, 0, am 1 e, 0, 0, 0, am 1 e, 0, 0, 0, am 3 e, 0, 0, 0, am 2 e, 0]  := by simp [z16, mixL, am_zero_right]
    rw [e0]
    intro i hi j hj
    match i, hi, j, hj with
    | 0, _, 0, _ => simp [*]
    | 0, _, 1, _ => simp [*]
    | 0, _, 2, _ => simp [*]
    | 0, _, 3, _ => simp [*]
    | 1, _, 0, _ => simp [*]
    | 1, _, 1, _ => simp [*]
    | 1, _, 2, _ => simp [*]
    | 1, _, 3, _ => simp [*]
    | 2, _, 0, _ => simp [*]
    | 2, _, 1, _ => simp [*]
    | 2, _, 2, _ => simp [*]
    | 2, _, 3, _ => simp [*]
    | 3, _, 0, _ => simp [*]
    | 3, _, 1, _ => simp [*]
    | 3, _, 2, _ => simp [*]
    | 3, _, 3, _ => simp [*]
  · have e0 : mixL [2, 3, 1, 1] (z16.set 15 e) = [0, 0, 0, am 1 e, 0, 0, 0, am 1 e, 0, 0, 0, am 3 e, 0, 0, 0, am 2 e]  := by simp [z16, mixL, am_zero_right]
    rw [e0]
    intro i hi j hj
    match i, hi, j, hj with
    | 0, _, 0, _ => simp [*]
    | 0, _, 1, _ => simp [*]
    | 0, _, 2, _ => simp [*]
    | 0, _, 3, _ => simp [*]
    | 1, _, 0, _ => simp [*]
    | 1, _, 1, _ => simp [*]
    | 1, _, 2, _ => simp [*]
    | 1, _, 3, _ => simp [*]
    | 2, _, 0, _ => simp [*]
    | 2, _, 1, _ => simp [*]
    | 2, _, 2, _ => simp [*]
    | 2, _, 3, _ => simp [*]
    | 3, _, 0, _ => simp [*]
    | 3, _, 1, _ => simp [*]
    | 3, _, 2, _ => simp [*]
    | 3, _, 3, _ => simp [*]

theorem linear_law {s : List UInt8} (hs : s.length = 16) (p : UInt8) {r c : Nat} (hr : r < 4) (hc : c < 4) : ∀ i, i < 4 → ∀ j, j < 4 →
    ((xorL (mixL [2, 3, 1, 1] s) (mixL [2, 3, 1, 1] (s.set (r * 4 + c) (s.getD (r * 4 + c) 0 ^^^ (p ||| 1))))).getD (i * 4 + j) 0 = 0 ↔ ¬ j = c) := by
  intro i hi j hj
  rw [← mix_xor rfl hs (by rw [List.length_set]; exact hs), xor_set hs _ _ (by omega), mix_one (or_ne p) _ (by omega) i hi j hj]
  rw [show (r * 4 + c) % 4 = c by omega]

theorem wrap_u8_in {x : Int} (h0 : 0 ≤ x) (h1 : x < 256) : IntKind.u8.wrap x = x := by
  simp only [IntKind.wrap, IntKind.bits, IntKind.signed]
  first | (simp; omega) | omega
def LiS (w : World) (ga gb : Nat) (s x : List UInt8) (u : World) : Prop := w.grownBy u none ∧ Blk u ga 33 s ∧ Blk u gb 33 x
theorem LiS.clo (w : World) (ga gb : Nat) (s x : List UInt8) : Clo (LiS w ga gb s x) := fun _ _ h hg => ⟨grownBy_trans h.1 hg, h.2.1.grown hg (by simp), h.2.2.grown hg (by simp)⟩

set_option maxRecDepth 100000 in
set_option maxHeartbeats 8000000 in
theorem linear_walk (s t : List UInt8) (p : UInt8) (hs : s.length = 16) (ht : t.length = 16) (w : World) : Calls Try.prog 8 #[aggB s, aggB t, .int .u8 (p.toNat : Int)] w fun e w' => e = .returned (.bool true) ∧ w.grownBy w' none := by
  have hmS : Try.prog.eqGuardType Try.prog.depth 33 = false := by kernel_rfl
  obtain ⟨is, his, hisz, hiss⟩ := state_info
  have IS := Lib.hid his
  have ISZ := Lib.hid hisz
  have ISS := Lib.hid hiss
  clear his hisz hiss
  -- the values of the first test
  obtain ⟨st, hst⟩ : ∃ x, x = xorL s t := ⟨_, rfl⟩
  have hstl : st.length = 16 := by rw [hst]; exact xorL_len hs ht
  obtain ⟨ms, hms⟩ : ∃ x, x = mixL [2, 3, 1, 1] s := ⟨_, rfl⟩
  have hmsl : ms.length = 16 := by rw [hms]; exact mixL_len rfl hs
  obtain ⟨mt, hmt⟩ : ∃ x, x = mixL [2, 3, 1, 1] t := ⟨_, rfl⟩
  have hmtl : mt.length = 16 := by rw [hmt]; exact mixL_len rfl ht
  obtain ⟨mst, hmst⟩ : ∃ x, x = mixL [2, 3, 1, 1] st := ⟨_, rfl⟩
  have hmstl : mst.length = 16 := by rw [hmst]; exact mixL_len rfl hstl
  have hm2 : xorL ms mt = mst := by rw [hms, hmt, hmst, hst, mix_xor rfl hs ht]
  obtain ⟨ss, hss⟩ : ∃ x, x = shL s := ⟨_, rfl⟩
  have hssl : ss.length = 16 := by rw [hss]; exact shL_len hs
  obtain ⟨tt, htt⟩ : ∃ x, x = shL t := ⟨_, rfl⟩
  have httl : tt.length = 16 := by rw [htt]; exact shL_len ht
  obtain ⟨sst, hsst⟩ : ∃ x, x = shL st := ⟨_, rfl⟩
  have hsstl : sst.length = 16 := by rw [hsst]; exact shL_len hstl
  have hs2 : xorL ss tt = sst := by rw [hss, htt, hsst, hst, sh_xor hs ht]
  have HB1 := Lib.hid (fun w1 : World => by have h := both_n s t hs ht w1; rw [← hst] at h; exact h)
  have HB2 := Lib.hid (fun w1 : World => by have h := both_n ms mt hmsl hmtl w1; rw [hm2] at h; exact h)
  have HB3 := Lib.hid (fun w1 : World => by have h := both_n ss tt hssl httl w1; rw [hs2] at h; exact h)
  have HMS := Lib.hid (fun w1 : World => by have h := mix_n s hs w1; rw [← hms] at h; exact h)
  have HMT := Lib.hid (fun w1 : World => by have h := mix_n t ht w1; rw [← hmt] at h; exact h)
  have HMST := Lib.hid (fun w1 : World => by have h := mix_n st hstl w1; rw [← hmst] at h; exact h)
  have HSS := Lib.hid (fun w1 : World => by have h := shift_n s hs w1; rw [← hss] at h; exact h)
  have HTT := Lib.hid (fun w1 : World => by have h := shift_n t ht w1; rw [← htt] at h; exact h)
  have HSST := Lib.hid (fun w1 : World => by have h := shift_n st hstl w1; rw [← hsst] at h; exact h)
  have HQ1 := Lib.hid (fun w1 : World => nsame_state mst hmstl w1)
  have HQ2 := Lib.hid (fun w1 : World => nsame_state sst hsstl w1)
  have HMg := Lib.hid hmS
  -- the place
  obtain ⟨r, hr⟩ : ∃ r, r = p.toNat % 4 := ⟨_, rfl⟩
  obtain ⟨q, hq⟩ : ∃ q, q = p.toNat / 4 := ⟨_, rfl⟩
  obtain ⟨c, hc⟩ : ∃ c, c = q % 4 := ⟨_, rfl⟩
  have hp := p.toNat_lt
  have hr4 : r < 4 := by omega
  have hc4 : c < 4 := by omega
  have m1 : ((p.toNat : Int)).tmod 4 = (r : Int) := by rw [hr]; rfl
  have m1' : ((p.toNat : Int)) % 4 = (r : Int) := by rw [hr]; rfl
  have m2 : ((p.toNat : Int)).tdiv 4 = (q : Int) := by rw [hq]; rfl
  have m2' : ((p.toNat : Int)) / 4 = (q : Int) := by rw [hq]; rfl
  have m3 : ((q : Int)).tmod 4 = (c : Int) := by rw [hc]; rfl
  have m3' : ((q : Int)) % 4 = (c : Int) := by rw [hc]; rfl
  have v1 : IntKind.u8.wrap (r : Int) = (r : Int) := wrap_u8_in (by omega) (by omega)
  have v2 : IntKind.u8.wrap (q : Int) = (q : Int) := wrap_u8_in (by omega) (by omega)
  have v3 : IntKind.u8.wrap (c : Int) = (c : Int) := wrap_u8_in (by omega) (by omega)
  have v4 : IntKind.i64.wrap (r : Int) = (r : Int) := i64_nat _ (by omega)
  have v5 : IntKind.i64.wrap (c : Int) = (c : Int) := i64_nat _ (by omega)
  have r4 : (r : Int) < 4 := by omega
  have c4 : (c : Int) < 4 := by omega
  have hor := or_one p
  have hlaw := linear_law hs p hr4 hc4
  obtain ⟨e, he⟩ : ∃ e, e = p ||| 1 := ⟨_, rfl⟩
  rw [← he] at hor hlaw
  obtain ⟨x, hx⟩ : ∃ x, x = s.getD (r * 4 + c) 0 := ⟨_, rfl⟩
  rw [← hx] at hlaw
  have hxe := xor_u8 x e
  obtain ⟨y, hy⟩ : ∃ y, y = x ^^^ e := ⟨_, rfl⟩
  rw [← hy] at hlaw hxe
  obtain ⟨tu, htu⟩ : ∃ tu, tu = s.set (r * 4 + c) y := ⟨_, rfl⟩
  have htul : tu.length = 16 := by rw [htu, List.length_set]; exact hs
  rw [← htu] at hlaw
  obtain ⟨mtu, hmtu⟩ : ∃ x, x = mixL [2, 3, 1, 1] tu := ⟨_, rfl⟩
  have hmtul : mtu.length = 16 := by rw [hmtu]; exact mixL_len rfl htul
  rw [← hmtu, ← hms] at hlaw
  obtain ⟨d, hd⟩ : ∃ x, x = xorL ms mtu := ⟨_, rfl⟩
  have hdl : d.length = 16 := by rw [hd]; exact xorL_len hmsl hmtul
  rw [← hd] at hlaw
  have HMTU := Lib.hid (fun w1 : World => by have h := mix_n tu htul w1; rw [← hmtu] at h; exact h)
  have HBD := Lib.hid (fun w1 : World => by have h := both_n ms mtu hmsl hmtul w1; rw [← hd] at h; exact h)
  have HLAW := Lib.hid hlaw
  have HX := Lib.hid hx
  have HTU := Lib.hid htu
  have HQE := Lib.hid hq
  have HRE := Lib.hid hr
  have HCE := Lib.hid hc
  clear hst hms hmt hmst hss htt hsst hm2 hs2 he hy htu hmtu hd hlaw hx hq hr hc
  unfold aggB at HB1 HB2 HB3 HMS HMT HMST HSS HTT HSST HMTU HBD ⊢
  go_enter Try.func8, Try.ntmps8
  go_upto_region 1 with (first | (refine wpList_boxed (T := 33) rfl rfl (cellsB s) rfl ?_; intro wa hsa hga hra; have HSa := Lib.hid hsa; have HGa := Lib.hid hga; have HRa := Lib.hid (show Blk wa w.heap.size 33 s from hra); clear hsa hga hra) | (refine wpList_boxed (T := 33) rfl rfl (cellsB t) rfl ?_; intro wb hsb hgb hrb; have HSb := Lib.hid hsb; have HGb := Lib.hid (grownBy_trans HGa.out hgb); have HKb := Lib.hid (HRa.out.grown hgb (by simp)); have HRb := Lib.hid (show Blk wb wa.heap.size 33 t from hrb); clear hsb hgb hrb))
  have HKK : Hid (∀ u v : World, LiS w w.heap.size wa.heap.size s t u → u.grownBy v none → LiS w w.heap.size wa.heap.size s t v) := Lib.hid (LiS.clo w w.heap.size wa.heap.size s t)
  refine wp_regionS (LiS w w.heap.size wa.heap.size s t) (by kernel_rfl) (HKK.out _ _ ⟨HGb.out, HKb.out, HRb.out⟩ (grownBy_drewN wb 1 none)) ?_
  refine wpS_take 0 (v := .agg (cellsB s)) (oi := { dst := some 13, op := Op.load 33 (Operand.tmp 3), type := 33, pos := "outright.go:133", after := #[], guard := none }) rfl (by kernel_rfl) (by kernel_rfl) (by kernel_rfl) (fun _ _ _ h => h) (YS.val (by rfl) (fun u hS => run_load_op u _ 33 _ rfl (w.heap.size) rfl 33 (cellsB s) (hS.2.1) Try.underlying33 rfl (by rw [size_state, cellsB_size, hs]))) ?_
  simp only [Act.put, List.setIfInBounds_toArray, List.set_cons_zero, List.set_cons_succ]
  refine wpS_take 1 (v := .agg (cellsB t)) (oi := { dst := some 14, op := Op.load 33 (Operand.tmp 4), type := 33, pos := "outright.go:133", after := #[], guard := none }) rfl (by kernel_rfl) (by kernel_rfl) (by kernel_rfl) (fun _ _ _ h => h) (YS.val (by rfl) (fun u hS => run_load_op u _ 33 _ rfl (wa.heap.size) rfl 33 (cellsB t) (hS.2.2) Try.underlying33 rfl (by rw [size_state, cellsB_size, ht]))) ?_
  simp only [Act.put, List.setIfInBounds_toArray, List.set_cons_zero, List.set_cons_succ]
  refine wpS_take 2 (v := .agg (cellsB st)) (oi := { dst := some 15, op := Op.call { callee := Callee.value (Operand.func 43), args := #[Operand.tmp 13, Operand.tmp 14], argTypes := #[33, 33] }, type := 33, pos := "outright.go:133", after := #[{ on := 0, ground := Ground.data }, { on := 1, ground := Ground.data }], guard := none }) rfl (by kernel_rfl) (by kernel_rfl) (by kernel_rfl) (fun _ _ _ h => h) (YS.grow (f := 43) (args := #[.agg (cellsB s), .agg (cellsB t)]) (by rfl) (fun w => by go_simp) HKK.out (fun w => HB1.out w)) ?_
  simp only [Act.put, List.setIfInBounds_toArray, List.set_cons_zero, List.set_cons_succ]
  refine wpS_take 3 (v := .agg (cellsB mst)) (oi := { dst := some 16, op := Op.call { callee := Callee.value (Operand.func 36), args := #[Operand.tmp 15], argTypes := #[33] }, type := 33, pos := "outright.go:133", after := #[{ on := 2, ground := Ground.data }, { on := 2, ground := Ground.chain }], guard := none }) rfl (by kernel_rfl) (by kernel_rfl) (by kernel_rfl) (fun _ _ _ h => h) (YS.grow (f := 36) (args := #[.agg (cellsB st)]) (by rfl) (fun w => by go_simp) HKK.out (fun w => HMST.out w)) ?_
  simp only [Act.put, List.setIfInBounds_toArray, List.set_cons_zero, List.set_cons_succ]
  refine wpS_take 4 (v := .agg (cellsB s)) (oi := { dst := some 17, op := Op.load 33 (Operand.tmp 3), type := 33, pos := "outright.go:133", after := #[], guard := none }) rfl (by kernel_rfl) (by kernel_rfl) (by kernel_rfl) (fun _ _ _ h => h) (YS.val (by rfl) (fun u hS => run_load_op u _ 33 _ rfl (w.heap.size) rfl 33 (cellsB s) (hS.2.1) Try.underlying33 rfl (by rw [size_state, cellsB_size, hs]))) ?_
  simp only [Act.put, List.setIfInBounds_toArray, List.set_cons_zero, List.set_cons_succ]
  refine wpS_take 5 (v := .agg (cellsB ms)) (oi := { dst := some 18, op := Op.call { callee := Callee.value (Operand.func 36), args := #[Operand.tmp 17], argTypes := #[33] }, type := 33, pos := "outright.go:133", after := #[{ on := 4, ground := Ground.data }, { on := 3, ground := Ground.chain }], guard := none }) rfl (by kernel_rfl) (by kernel_rfl) (by kernel_rfl) (fun _ _ _ h => h) (YS.grow (f := 36) (args := #[.agg (cellsB s)]) (by rfl) (fun w => by go_simp) HKK.out (fun w => HMS.out w)) ?_
  simp only [Act.put, List.setIfInBounds_toArray, List.set_cons_zero, List.set_cons_succ]
  refine wpS_take 6 (v := .agg (cellsB t)) (oi := { dst := some 19, op := Op.load 33 (Operand.tmp 4), type := 33, pos := "outright.go:133", after := #[], guard := none }) rfl (by kernel_rfl) (by kernel_rfl) (by kernel_rfl) (fun _ _ _ h => h) (YS.val (by rfl) (fun u hS => run_load_op u _ 33 _ rfl (wa.heap.size) rfl 33 (cellsB t) (hS.2.2) Try.underlying33 rfl (by rw [size_state, cellsB_size, ht]))) ?_
  simp only [Act.put, List.setIfInBounds_toArray, List.set_cons_zero, List.set_cons_succ]
  refine wpS_take 7 (v := .agg (cellsB mt)) (oi := { dst := some 20, op := Op.call { callee := Callee.value (Operand.func 36), args := #[Operand.tmp 19], argTypes := #[33] }, type := 33, pos := "outright.go:133", after := #[{ on := 6, ground := Ground.data }, { on := 5, ground := Ground.chain }], guard := none }) rfl (by kernel_rfl) (by kernel_rfl) (by kernel_rfl) (fun _ _ _ h => h) (YS.grow (f := 36) (args := #[.agg (cellsB t)]) (by rfl) (fun w => by go_simp) HKK.out (fun w => HMT.out w)) ?_
  simp only [Act.put, List.setIfInBounds_toArray, List.set_cons_zero, List.set_cons_succ]
  refine wpS_take 8 (v := .agg (cellsB mst)) (oi := { dst := some 21, op := Op.call { callee := Callee.value (Operand.func 43), args := #[Operand.tmp 18, Operand.tmp 20], argTypes := #[33, 33] }, type := 33, pos := "outright.go:133", after := #[{ on := 5, ground := Ground.data }, { on := 7, ground := Ground.data }, { on := 7, ground := Ground.chain }], guard := none }) rfl (by kernel_rfl) (by kernel_rfl) (by kernel_rfl) (fun _ _ _ h => h) (YS.grow (f := 43) (args := #[.agg (cellsB ms), .agg (cellsB mt)]) (by rfl) (fun w => by go_simp) HKK.out (fun w => HB2.out w)) ?_
  simp only [Act.put, List.setIfInBounds_toArray, List.set_cons_zero, List.set_cons_succ]
  refine wpS_take 9 (v := .bool false) (oi := { dst := some 22, op := Op.binOp BinOp.neq 33 (Operand.tmp 16) (Operand.tmp 21) 33, type := 4, pos := "outright.go:133", after := #[{ on := 3, ground := Ground.data }, { on := 8, ground := Ground.data }], guard := none }) rfl (by kernel_rfl) (by kernel_rfl) (by kernel_rfl) (fun _ _ _ h => h) (YS.val (by rfl) (fun u _ => run_neq_op u _ HMg.out (x := .tmp 16) (y := .tmp 21) rfl (cellsB mst) (cellsB mst) rfl rfl (HQ1.out u))) ?_
  simp only [Act.put, List.setIfInBounds_toArray, List.set_cons_zero, List.set_cons_succ]
  refine wpS_take 10 (v := .bool false) (oi := { dst := some 23, op := Op.move (Operand.tmp 22), type := 4, pos := "outright.go:133", after := #[{ on := 9, ground := Ground.data }, { on := 8, ground := Ground.chain }], guard := none }) rfl (by kernel_rfl) (by kernel_rfl) (by kernel_rfl) (fun _ _ _ h => h) (YS.val (by rfl) (fun _ _ => rfl)) ?_
  simp only [Act.put, List.setIfInBounds_toArray, List.set_cons_zero, List.set_cons_succ]
  refine wpS_take 11 (v := .agg (cellsB s)) (oi := { dst := some 24, op := Op.load 33 (Operand.tmp 3), type := 33, pos := "outright.go:133", after := #[{ on := 10, ground := Ground.guard }], guard := some (10, false) }) rfl (by kernel_rfl) (by kernel_rfl) (by kernel_rfl) (fun _ _ _ h => h) (YS.val (by rfl) (fun u hS => run_load_op u _ 33 _ rfl (w.heap.size) rfl 33 (cellsB s) (hS.2.1) Try.underlying33 rfl (by rw [size_state, cellsB_size, hs]))) ?_
  simp only [Act.put, List.setIfInBounds_toArray, List.set_cons_zero, List.set_cons_succ]
  refine wpS_take 12 (v := .agg (cellsB t)) (oi := { dst := some 25, op := Op.load 33 (Operand.tmp 4), type := 33, pos := "outright.go:133", after := #[{ on := 10, ground := Ground.guard }], guard := some (10, false) }) rfl (by kernel_rfl) (by kernel_rfl) (by kernel_rfl) (fun _ _ _ h => h) (YS.val (by rfl) (fun u hS => run_load_op u _ 33 _ rfl (wa.heap.size) rfl 33 (cellsB t) (hS.2.2) Try.underlying33 rfl (by rw [size_state, cellsB_size, ht]))) ?_
  simp only [Act.put, List.setIfInBounds_toArray, List.set_cons_zero, List.set_cons_succ]
  refine wpS_take 13 (v := .agg (cellsB st)) (oi := { dst := some 26, op := Op.call { callee := Callee.value (Operand.func 43), args := #[Operand.tmp 24, Operand.tmp 25], argTypes := #[33, 33] }, type := 33, pos := "outright.go:133", after := #[{ on := 11, ground := Ground.data }, { on := 12, ground := Ground.data }, { on := 10, ground := Ground.chain }, { on := 10, ground := Ground.guard }], guard := some (10, false) }) rfl (by kernel_rfl) (by kernel_rfl) (by kernel_rfl) (fun _ _ _ h => h) (YS.grow (f := 43) (args := #[.agg (cellsB s), .agg (cellsB t)]) (by rfl) (fun w => by go_simp) HKK.out (fun w => HB1.out w)) ?_
  simp only [Act.put, List.setIfInBounds_toArray, List.set_cons_zero, List.set_cons_succ]
  refine wpS_take 14 (v := .agg (cellsB sst)) (oi := { dst := some 27, op := Op.call { callee := Callee.value (Operand.func 32), args := #[Operand.tmp 26], argTypes := #[33] }, type := 33, pos := "outright.go:133", after := #[{ on := 13, ground := Ground.data }, { on := 13, ground := Ground.chain }, { on := 10, ground := Ground.guard }], guard := some (10, false) }) rfl (by kernel_rfl) (by kernel_rfl) (by kernel_rfl) (fun _ _ _ h => h) (YS.grow (f := 32) (args := #[.agg (cellsB st)]) (by rfl) (fun w => by go_simp) HKK.out (fun w => HSST.out w)) ?_
  simp only [Act.put, List.setIfInBounds_toArray, List.set_cons_zero, List.set_cons_succ]
  refine wpS_take 15 (v := .agg (cellsB s)) (oi := { dst := some 28, op := Op.load 33 (Operand.tmp 3), type := 33, pos := "outright.go:133", after := #[{ on := 10, ground := Ground.guard }], guard := some (10, false) }) rfl (by kernel_rfl) (by kernel_rfl) (by kernel_rfl) (fun _ _ _ h => h) (YS.val (by rfl) (fun u hS => run_load_op u _ 33 _ rfl (w.heap.size) rfl 33 (cellsB s) (hS.2.1) Try.underlying33 rfl (by rw [size_state, cellsB_size, hs]))) ?_
  simp only [Act.put, List.setIfInBounds_toArray, List.set_cons_zero, List.set_cons_succ]
  refine wpS_take 16 (v := .agg (cellsB ss)) (oi := { dst := some 29, op := Op.call { callee := Callee.value (Operand.func 32), args := #[Operand.tmp 28], argTypes := #[33] }, type := 33, pos := "outright.go:133", after := #[{ on := 15, ground := Ground.data }, { on := 14, ground := Ground.chain }, { on := 10, ground := Ground.guard }], guard := some (10, false) }) rfl (by kernel_rfl) (by kernel_rfl) (by kernel_rfl) (fun _ _ _ h => h) (YS.grow (f := 32) (args := #[.agg (cellsB s)]) (by rfl) (fun w => by go_simp) HKK.out (fun w => HSS.out w)) ?_
  simp only [Act.put, List.setIfInBounds_toArray, List.set_cons_zero, List.set_cons_succ]
  refine wpS_take 17 (v := .agg (cellsB t)) (oi := { dst := some 30, op := Op.load 33 (Operand.tmp 4), type := 33, pos := "outright.go:133", after := #[{ on := 10, ground := Ground.guard }], guard := some (10, false) }) rfl (by kernel_rfl) (by kernel_rfl) (by kernel_rfl) (fun _ _ _ h => h) (YS.val (by rfl) (fun u hS => run_load_op u _ 33 _ rfl (wa.heap.size) rfl 33 (cellsB t) (hS.2.2) Try.underlying33 rfl (by rw [size_state, cellsB_size, ht]))) ?_
  simp only [Act.put, List.setIfInBounds_toArray, List.set_cons_zero, List.set_cons_succ]
  refine wpS_take 18 (v := .agg (cellsB tt)) (oi := { dst := some 31, op := Op.call { callee := Callee.value (Operand.func 32), args := #[Operand.tmp 30], argTypes := #[33] }, type := 33, pos := "outright.go:133", after := #[{ on := 17, ground := Ground.data }, { on := 16, ground := Ground.chain }, { on := 10, ground := Ground.guard }], guard := some (10, false) }) rfl (by kernel_rfl) (by kernel_rfl) (by kernel_rfl) (fun _ _ _ h => h) (YS.grow (f := 32) (args := #[.agg (cellsB t)]) (by rfl) (fun w => by go_simp) HKK.out (fun w => HTT.out w)) ?_
  simp only [Act.put, List.setIfInBounds_toArray, List.set_cons_zero, List.set_cons_succ]
  refine wpS_take 19 (v := .agg (cellsB sst)) (oi := { dst := some 32, op := Op.call { callee := Callee.value (Operand.func 43), args := #[Operand.tmp 29, Operand.tmp 31], argTypes := #[33, 33] }, type := 33, pos := "outright.go:133", after := #[{ on := 16, ground := Ground.data }, { on := 18, ground := Ground.data }, { on := 18, ground := Ground.chain }, { on := 10, ground := Ground.guard }], guard := some (10, false) }) rfl (by kernel_rfl) (by kernel_rfl) (by kernel_rfl) (fun _ _ _ h => h) (YS.grow (f := 43) (args := #[.agg (cellsB ss), .agg (cellsB tt)]) (by rfl) (fun w => by go_simp) HKK.out (fun w => HB3.out w)) ?_
  simp only [Act.put, List.setIfInBounds_toArray, List.set_cons_zero, List.set_cons_succ]
  refine wpS_take 20 (v := .bool false) (oi := { dst := some 33, op := Op.binOp BinOp.neq 33 (Operand.tmp 27) (Operand.tmp 32) 33, type := 4, pos := "outright.go:133", after := #[{ on := 14, ground := Ground.data }, { on := 19, ground := Ground.data }, { on := 10, ground := Ground.guard }], guard := some (10, false) }) rfl (by kernel_rfl) (by kernel_rfl) (by kernel_rfl) (fun _ _ _ h => h) (YS.val (by rfl) (fun u _ => run_neq_op u _ HMg.out (x := .tmp 27) (y := .tmp 32) rfl (cellsB sst) (cellsB sst) rfl rfl (HQ2.out u))) ?_
  simp only [Act.put, List.setIfInBounds_toArray, List.set_cons_zero, List.set_cons_succ]
  refine wpS_take 21 (v := .bool false) (oi := { dst := some 34, op := Op.pick (Operand.tmp 23) (Operand.const (Value.bool true)) (Operand.tmp 33), type := 4, pos := "outright.go:133", after := #[{ on := 10, ground := Ground.data }, { on := 20, ground := Ground.data }], guard := none }) rfl (by kernel_rfl) (by kernel_rfl) (by kernel_rfl) (fun _ _ _ h => h) (YS.val (by rfl) (fun _ _ => rfl)) ?_
  simp only [Act.put, List.setIfInBounds_toArray, List.set_cons_zero, List.set_cons_succ]
  refine wpS_done (by kernel_rfl) (fun w1 hw1 => ?_) _
  have HW1 := Lib.hid hw1
  clear hw1 HB1 HB2 HB3 HMT HMST HSS HTT HSST HQ1 HQ2 HGb HKb HRb HRa HGa HKK
  go_upto_region 6 with (first | (refine wpList_load_rowW (by rfl) 33 _ rfl w.heap.size rfl 33 (cellsB s) (0, 0) _ HW1.out.2.1 Try.underlying33 rfl (by rw [size_state, cellsB_size, hs]) ?_) | (refine wpList_fresh rfl rfl rfl rfl rfl IS.out ISZ.out (by rw [ISS.out, cells_agg, cellsB_size]; rfl) (cellsB s) rfl rfl (by rw [cells_agg, cellsB_size, cellsB_size, hs]; rfl) (cellsB_one _) ?_; intro w2 hs2 hg2 hr2; clear hs2; have HW2 := Lib.hid (show LiS w w.heap.size w1.heap.size s s w2 from ⟨grownBy_trans HW1.out.1 hg2, HW1.out.2.1.grown hg2 (by simp), hr2⟩); clear hg2 hr2))
  have hw12 : w.heap.size ≤ w1.heap.size := HW1.out.1.size
  have hww : w.heap.size < w1.heap.size := HW1.out.2.1.lt
  obtain ⟨ga, hga⟩ : ∃ g, g = w.heap.size := ⟨_, rfl⟩
  obtain ⟨gt, hgt⟩ : ∃ g, g = w1.heap.size := ⟨_, rfl⟩
  rw [← hga, ← hgt] at HW2
  rw [← hga, ← hgt] at hww
  have HGA := Lib.hid hga
  rw [← hga, ← hgt]
  have HWW := Lib.hid hww
  clear hga hgt hw12 hww HW1
  have hci := HW2.out.2.2.cell 16 hs (r * 4 + c) (by omega)
  rw [← HX.out] at hci
  have hfree := HW2.out.2.2.free
  have hb5 := HW2.out.2.2.set (r * 4 + c) y
  rw [← HTU.out] at hb5
  have hset := grownBy_setCell w2 gt (r * 4 + c) (.int .u8 (y.toNat : Int))
  have HW5 := Lib.hid (show LiS w ga gt s tu (w2.setCell ⟨gt, r * 4 + c, none⟩ (.int .u8 (y.toNat : Int))).drew from ⟨grownBy_d1 (grownBy_old HW2.out.1 hset (by have := HWW.out; have := HGA.out; omega)), (HW2.out.2.1.grown hset (by have := HWW.out; simp; omega)).dr, hb5.dr⟩)
  clear hb5 hset HW2
  go_region
  go_upto_region 7 with fail
  generalize (w2.setCell ⟨gt, r * 4 + c, none⟩ (.int .u8 (y.toNat : Int))).drew = w5 at HW5 ⊢
  refine wp_regionX (LiS w ga gt s tu) 6 (by kernel_rfl) (LiS.clo w ga gt s tu _ _ HW5.out (grownBy_drewN w5 1 none)) ?_
  refine wpX_take 0 (v := .agg (cellsB s)) (oi := { dst := some 55, op := Op.load 33 (Operand.tmp 3), type := 33, pos := "outright.go:140", after := #[], guard := none }) (oL := { dst := none, op := Op.store 33 (Operand.tmp 10) (Operand.tmp 59), type := 0, pos := "outright.go:140", after := #[{ on := 5, ground := Ground.data }, { on := 4, ground := Ground.data }, { on := 4, ground := Ground.chain }, { on := 0, ground := Ground.phase }, { on := 1, ground := Ground.phase }, { on := 2, ground := Ground.phase }, { on := 3, ground := Ground.phase }, { on := 4, ground := Ground.phase }, { on := 5, ground := Ground.phase }], guard := none }) (LiS.clo w ga gt s tu) rfl rfl rfl (by kernel_rfl) (by kernel_rfl) (by kernel_rfl) (by kernel_rfl) (by kernel_rfl) (fun _ _ _ h => h) (YG.val (by rfl) (fun u hS => run_load_op u _ 33 _ rfl (ga) rfl 33 (cellsB s) (hS.2.1) Try.underlying33 rfl (by rw [size_state, cellsB_size, hs]))) ?_
  simp only [Act.put, List.setIfInBounds_toArray, List.set_cons_zero, List.set_cons_succ]
  refine wpX_take 1 (v := .agg (cellsB ms)) (oi := { dst := some 56, op := Op.call { callee := Callee.value (Operand.func 36), args := #[Operand.tmp 55], argTypes := #[33] }, type := 33, pos := "outright.go:140", after := #[{ on := 0, ground := Ground.data }], guard := none }) (oL := { dst := none, op := Op.store 33 (Operand.tmp 10) (Operand.tmp 59), type := 0, pos := "outright.go:140", after := #[{ on := 5, ground := Ground.data }, { on := 4, ground := Ground.data }, { on := 4, ground := Ground.chain }, { on := 0, ground := Ground.phase }, { on := 1, ground := Ground.phase }, { on := 2, ground := Ground.phase }, { on := 3, ground := Ground.phase }, { on := 4, ground := Ground.phase }, { on := 5, ground := Ground.phase }], guard := none }) (LiS.clo w ga gt s tu) rfl rfl rfl (by kernel_rfl) (by kernel_rfl) (by kernel_rfl) (by kernel_rfl) (by kernel_rfl) (fun _ _ _ h => h) (YG.call (f := 36) (args := #[.agg (cellsB s)]) (by rfl) (fun w => by go_simp) (fun u _ => HMS.out u)) ?_
  simp only [Act.put, List.setIfInBounds_toArray, List.set_cons_zero, List.set_cons_succ]
  refine wpX_take 2 (v := .agg (cellsB tu)) (oi := { dst := some 57, op := Op.load 33 (Operand.tmp 9), type := 33, pos := "outright.go:140", after := #[], guard := none }) (oL := { dst := none, op := Op.store 33 (Operand.tmp 10) (Operand.tmp 59), type := 0, pos := "outright.go:140", after := #[{ on := 5, ground := Ground.data }, { on := 4, ground := Ground.data }, { on := 4, ground := Ground.chain }, { on := 0, ground := Ground.phase }, { on := 1, ground := Ground.phase }, { on := 2, ground := Ground.phase }, { on := 3, ground := Ground.phase }, { on := 4, ground := Ground.phase }, { on := 5, ground := Ground.phase }], guard := none }) (LiS.clo w ga gt s tu) rfl rfl rfl (by kernel_rfl) (by kernel_rfl) (by kernel_rfl) (by kernel_rfl) (by kernel_rfl) (fun _ _ _ h => h) (YG.val (by rfl) (fun u hS => run_load_op u _ 33 _ rfl (gt) rfl 33 (cellsB tu) (hS.2.2) Try.underlying33 rfl (by rw [size_state, cellsB_size, htul]))) ?_
  simp only [Act.put, List.setIfInBounds_toArray, List.set_cons_zero, List.set_cons_succ]
  refine wpX_take 3 (v := .agg (cellsB mtu)) (oi := { dst := some 58, op := Op.call { callee := Callee.value (Operand.func 36), args := #[Operand.tmp 57], argTypes := #[33] }, type := 33, pos := "outright.go:140", after := #[{ on := 2, ground := Ground.data }, { on := 1, ground := Ground.chain }], guard := none }) (oL := { dst := none, op := Op.store 33 (Operand.tmp 10) (Operand.tmp 59), type := 0, pos := "outright.go:140", after := #[{ on := 5, ground := Ground.data }, { on := 4, ground := Ground.data }, { on := 4, ground := Ground.chain }, { on := 0, ground := Ground.phase }, { on := 1, ground := Ground.phase }, { on := 2, ground := Ground.phase }, { on := 3, ground := Ground.phase }, { on := 4, ground := Ground.phase }, { on := 5, ground := Ground.phase }], guard := none }) (LiS.clo w ga gt s tu) rfl rfl rfl (by kernel_rfl) (by kernel_rfl) (by kernel_rfl) (by kernel_rfl) (by kernel_rfl) (fun _ _ _ h => h) (YG.call (f := 36) (args := #[.agg (cellsB tu)]) (by rfl) (fun w => by go_simp) (fun u _ => HMTU.out u)) ?_
  simp only [Act.put, List.setIfInBounds_toArray, List.set_cons_zero, List.set_cons_succ]
  refine wpX_take 4 (v := .agg (cellsB d)) (oi := { dst := some 59, op := Op.call { callee := Callee.value (Operand.func 43), args := #[Operand.tmp 56, Operand.tmp 58], argTypes := #[33, 33] }, type := 33, pos := "outright.go:140", after := #[{ on := 1, ground := Ground.data }, { on := 3, ground := Ground.data }, { on := 3, ground := Ground.chain }], guard := none }) (oL := { dst := none, op := Op.store 33 (Operand.tmp 10) (Operand.tmp 59), type := 0, pos := "outright.go:140", after := #[{ on := 5, ground := Ground.data }, { on := 4, ground := Ground.data }, { on := 4, ground := Ground.chain }, { on := 0, ground := Ground.phase }, { on := 1, ground := Ground.phase }, { on := 2, ground := Ground.phase }, { on := 3, ground := Ground.phase }, { on := 4, ground := Ground.phase }, { on := 5, ground := Ground.phase }], guard := none }) (LiS.clo w ga gt s tu) rfl rfl rfl (by kernel_rfl) (by kernel_rfl) (by kernel_rfl) (by kernel_rfl) (by kernel_rfl) (fun _ _ _ h => h) (YG.call (f := 43) (args := #[.agg (cellsB ms), .agg (cellsB mtu)]) (by rfl) (fun w => by go_simp) (fun u _ => HBD.out u)) ?_
  simp only [Act.put, List.setIfInBounds_toArray, List.set_cons_zero, List.set_cons_succ]
  refine wpX_step 5 (o := { dst := some 10, op := Op.alloc 33, type := 0, pos := "outright.go:140", after := #[], guard := none }) rfl rfl (by kernel_rfl) (by rfl) (fun u2 hS2 K hK => ?_)
  have HK := Lib.hid hK
  have HS2 := Lib.hid hS2
  clear hK hS2
  refine wp_val_op (v := .pointer (some ⟨u2.heap.size, 0, none⟩)) (w1 := u2.alloc (.cells (cellsB z16) 33)) (run_alloc_op u2 _ rfl IS.out ISZ.out) ?_
  have hls2 : w.heap.size ≤ u2.heap.size := HS2.out.1.size
  refine HK.out (fun u => LiS w ga gt s tu u ∧ ∃ z, z.length = 16 ∧ Blk u u2.heap.size 33 z) _ _ ⟨LiS.clo w ga gt s tu _ _ HS2.out (World.grownBy_alloc _ _ _), z16, rfl, Blk.new u2 33 z16⟩ (fun u h => h.1) (fun _ _ h hg => ⟨LiS.clo w ga gt s tu _ _ h.1 hg, by obtain ⟨z, hz, hb⟩ := h.2; exact ⟨z, hz, hb.grown hg (by simp)⟩⟩) ?_
  simp only [Act.put, List.setIfInBounds_toArray, List.set_cons_zero, List.set_cons_succ]
  obtain ⟨gd, hgd⟩ : ∃ g, g = u2.heap.size := ⟨_, rfl⟩
  rw [← hgd]
  rw [← hgd] at hls2
  have HLS := Lib.hid hls2
  clear hgd hls2 HK HS2
  refine wpX_last (oL := { dst := none, op := Op.store 33 (Operand.tmp 10) (Operand.tmp 59), type := 0, pos := "outright.go:140", after := #[{ on := 5, ground := Ground.data }, { on := 4, ground := Ground.data }, { on := 4, ground := Ground.chain }, { on := 0, ground := Ground.phase }, { on := 1, ground := Ground.phase }, { on := 2, ground := Ground.phase }, { on := 3, ground := Ground.phase }, { on := 4, ground := Ground.phase }, { on := 5, ground := Ground.phase }], guard := none }) rfl (by kernel_rfl) (by kernel_rfl) (by rfl) (fun u6 hS6 K6 hK6 => ?_)
  obtain ⟨hL6, z6, hz6, hb6⟩ := hS6
  refine wp_store_row 33 _ _ rfl gd (cellsB d) rfl rfl 33 _ hb6 (by rw [size_state, cellsB_size, hdl]) (by rw [cellsB_size, cellsB_size, hdl, hz6]) (cellsB_one _) (hK6 _ _ ?_)
  have hg7 := grownBy_old hL6.1 (grownBy_setRow u6 gd (cellsB d)) HLS.out
  have hb7 := hb6.row d
  obtain ⟨w7, hw7⟩ : ∃ W, W = u6.setRow gd (cellsB d) := ⟨_, rfl⟩
  rw [← hw7] at hg7 hb7 ⊢
  have HG7 := Lib.hid hg7
  have HB7 := Lib.hid hb7
  clear hg7 hb7 hw7 hL6 hz6 hb6 hK6 HW5
  go_wp2_with fail
  go_loopw [11] (fun vi wr => ∃ k : Nat, k ≤ 4 ∧ vi = .int .i64 k ∧ wr = w7) (fun vi _ => 4 - (intOf vi).toNat)
  case atStart => exact ⟨0, by omega, rfl, rfl⟩
  case round =>
    obtain ⟨i, hi, rfl, rfl⟩ := hrel
    by_cases hlt : i < 4
    · have hi4 : decide ((i : Int) < 4) = true := by simp; omega
      have i4 : (i : Int) < 4 := by omega
      go_wp2_with fail
      go_loopw [12] (fun vj wr2 => ∃ k : Nat, k ≤ 4 ∧ vj = .int .i64 k ∧ wr2 = wr) (fun vj _ => 4 - (intOf vj).toNat)
      case atStart => exact ⟨0, by omega, rfl, rfl⟩
      case round =>
        obtain ⟨j, hj, rfl, rfl⟩ := hrel
        by_cases hlj : j < 4
        · have j4 : (j : Int) < 4 := by omega
          have hcell := HB7.out.cell 16 hdl (i * 4 + j) (by omega)
          have hl := HLAW.out i hlt j hlj
          obtain ⟨v, hv⟩ : ∃ v, v = d.getD (i * 4 + j) 0 := ⟨_, rfl⟩
          rw [← hv] at hcell hl
          clear hv
          by_cases hjc : j = c
          · have hv0 : ¬ v = 0 := fun h => (hl.1 h) hjc
            have hvn0 : ¬ (v.toNat : Int) = 0 := by
              intro h; exact hv0 (UInt8.toNat_inj.1 (by simp; omega))
            generalize (v.toNat : Int) = vz at hcell hvn0
            have hvn : (vz != 0) = true := by rw [bne_iff_ne]; exact hvn0
            have hve : (vz == 0) = false := by rw [beq_eq_false_iff_ne]; exact hvn0
            clear hl
            replace hjc := hjc.symm
            subst hjc
            go_wp2_with fail
            go_roundw
            case rel => exact ⟨c + 1, by omega, by go_num, by simp⟩
            case measure => simp [intOf]; omega
          · have hv0 : v = 0 := hl.2 hjc
            subst hv0
            have hjc' : ((j : Int) == (c : Int)) = false := by simp; omega
            have hz0 : ((0 : UInt8).toNat : Int) = 0 := rfl
            rw [hz0] at hcell
            clear hl
            go_wp2_with fail
            go_roundw
            case rel => exact ⟨j + 1, by omega, by go_num, by simp⟩
            case measure => simp [intOf]; omega
        · obtain rfl : j = 4 := by omega
          go_wp2_with fail
          go_roundw
          case rel => exact ⟨i + 1, by omega, by go_num, by simp⟩
          case measure => simp [intOf]; omega
    · obtain rfl : i = 4 := by omega
      go_wp2_with fail
      refine (awake_n _).mono ?_
      rintro e w8 ⟨rfl, hg8⟩
      have HG8 := Lib.hid (grownBy_trans HG7.out hg8)
      clear hg8
      go_wp2_with fail
      refine bodyPost_ret (by simp [*, results, Try.results8, go_sem]; try rfl) rfl ?_
      exact ⟨rfl, HG8.out⟩

end Go.Proofs.Ytlnmglddialhjaa
