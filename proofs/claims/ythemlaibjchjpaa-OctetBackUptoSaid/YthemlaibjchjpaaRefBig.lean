/- The document's Big and Small. -/
import Derived.Test.YthemlaibjchjpaaSmall
namespace Go.Proofs.Ythemlaibjchjpaa
open Go.RowKit

theorem bigL_get : ∀ (k x i : Nat) (h : i < (bigL k x).length), (bigL k x)[i] = UInt8.ofNat (x / 256 ^ (k - 1 - i)) := by
  intro k
  induction k with
  | zero => intro x i h; simp [bigL] at h
  | succ k ih =>
    intro x i h
    simp only [bigL]
    by_cases hi : i < k
    · rw [List.getElem_append_left (by rw [bigL_length]; exact hi), ih, Nat.div_div_eq_div_mul]
      congr 2
      rw [Nat.mul_comm, ← Nat.pow_succ]
      congr 1
      omega
    · have : i = k := by simp [bigL_length] at h; omega
      subst this
      rw [List.getElem_append_right (by rw [bigL_length]; exact Nat.le_refl _)]
      simp [bigL_length]

theorem shr_byte (x j : Nat) : (x : Int) / 2 ^ (8 * j) % 256 = ((UInt8.ofNat (x / 256 ^ j)).toNat : Int) := by
  have e : (2 : Int) ^ (8 * j) = ((256 ^ j : Nat) : Int) := by
    rw [show (256 : Nat) = 2 ^ 8 from rfl, ← Nat.pow_mul, Int.natCast_pow]
    rfl
  rw [u8i, e]
  rfl
theorem bigL_take_succ (k x m : Nat) (h : m < k) : (bigL k x).take (m + 1) = (bigL k x).take m ++ [UInt8.ofNat (x / 256 ^ (k - m - 1))] := by
  rw [List.take_succ_eq_append_getElem (by rw [bigL_length]; exact h), bigL_get, show k - 1 - m = k - m - 1 from by omega]

set_option maxRecDepth 100000 in
set_option maxHeartbeats 400000 in
theorem refBig_any (x k : Nat) (hx : x < 18446744073709551616) (hk : k ≤ 8) (w : World) : Calls Try.prog 22 #[.int .u64 x, .int .i64 k] w fun e w' => ∃ a c, e = .returned (.slice a k c) ∧ BOwn w' w.heap.size a k c (bigL k x) ∧ w.grownBy w' none := by
  go_enter Try.func22, Try.ntmps22
  go_wp2
  go_loopw [5, 6] (fun v i wr => ∃ (m : Nat) (a : Option Addr) (c : Nat), m ≤ k ∧ i = .int .i64 ((k : Int) - (m : Int) - 1) ∧ v = .slice a m c ∧ BOwn wr w.heap.size a m c ((bigL k x).take m) ∧ w.grownBy wr none) (fun _ i _ => (intOf i + 1).toNat)
  case atStart => exact ⟨0, none, 0, by omega, by go_num, rfl, Own.nil _ _ _ _ _, World.grownBy.refl _ _⟩
  case round =>
    obtain ⟨m, a, c, hm, rfl, rfl, hown, hg⟩ := hrel
    have hsz := hg.size
    by_cases hlt : m < k
    · go_wp2_with (at_builtin; refine wpList_push elB rfl (.tmp 13) (.tmp 20) rfl rfl hown (.int .u8 ((x : Int) / 2 ^ (8 * (k - m - 1)) % 256)) rfl rfl (by unfold maxLen; omega) (by omega) hsz ?_; intro g cap w1 hown1 hgr)
      go_roundw
      case rel => exact ⟨m + 1, _, _, by omega, by go_num, rfl, by unfold BOwn; rw [bigL_take_succ _ _ _ hlt, List.map_append]; rw [shr_byte] at hown1; exact hown1, hgr.grew.grown hown hg (Nat.le_refl _)⟩
      case measure => simp [intOf]; omega
    · obtain rfl : m = k := by omega
      go_wp2
      go_ret
      exact ⟨a, c, rfl, by rw [List.take_of_length_le (by rw [bigL_length]; exact Nat.le_refl _)] at hown; exact hown, hg⟩

set_option maxRecDepth 100000 in
set_option maxHeartbeats 400000 in
theorem refSmall_any (a : Option Addr) (c n k : Nat) (l : List UInt8) (w : World) (ha : BLies w a l) (hn : l.length = n) (hm : n ≤ maxLen) (hk : k ≤ 8) :
    Calls Try.prog 27 #[.slice a n c, .int .i64 k] w fun e w' => e = .returned (if n < k then .tuple #[.int .u64 0, .int .i64 10] else if k < n then .tuple #[.int .u64 0, .int .i64 11] else .tuple #[.int .u64 (smallL l), .int .i64 0]) ∧ w = w' := by
  unfold maxLen at hm
  by_cases h1 : n < k
  · have e : ∀ x y : Value, (if n < k then x else y) = x := fun x y => by rw [if_pos h1]
    rw [e]
    clear e
    go_enter Try.func27, Try.ntmps27
    go_wp2
    go_ret2
    exact ⟨rfl, rfl⟩
  by_cases h2 : k < n
  · have e : ∀ x y z : Value, (if n < k then x else if k < n then y else z) = y := fun x y z => by rw [if_neg h1, if_pos h2]
    rw [e]
    clear e
    go_enter Try.func27, Try.ntmps27
    go_wp2
    go_ret2
    exact ⟨rfl, rfl⟩
  have e : ∀ x y z : Value, (if n < k then x else if k < n then y else z) = z := fun x y z => by rw [if_neg h1, if_neg h2]
  rw [e]
  clear e
  obtain rfl : n = k := by omega
  clear h1 h2
  have HA : Hid (BLies w a l) := ha
  have HN := Lib.hid hn
  clear ha hn hm
  go_enter Try.func27, Try.ntmps27
  go_wp2
  go_loop [6, 7] (fun x i => ∃ k : Nat, k ≤ n ∧ i = .int .i64 k ∧ x = .int .u64 (smallL (l.take k))) (fun _ i => n - (intOf i).toNat)
  case atStart => exact ⟨0, by omega, rfl, rfl⟩
  case round =>
    obtain ⟨k, hk, rfl, rfl⟩ := hrel
    by_cases hlt : k < n
    · obtain ⟨b, off, rfl, hc⟩ := HA.out k (by rw [HN.out]; exact hlt)
      have hle := smallL_le (l := l) (k := k) (by rw [HN.out]; omega) (by omega)
      have hb := (l[k]'(by rw [HN.out]; exact hlt)).toNat_lt
      go_wp2
      go_round
      case rel => exact ⟨k + 1, by omega, by go_num, by rw [smallL_take (by rw [HN.out]; exact hlt)]; go_num⟩
      case measure => simp [intOf]; omega
    · obtain rfl : k = n := by omega
      have e0 : l.take k = l := List.take_of_length_le (by rw [HN.out]; omega)
      rw [e0]
      clear e0
      go_wp2
      go_ret2
      exact ⟨rfl, rfl⟩

end Go.Proofs.Ythemlaibjchjpaa
