/- gf: Dot, Eval; the document's. -/
import Derived.Test.YtfikeilpgnahkaaGfInv
import Derived.Test.YtfikeilpgnahkaaGfSums
import Derived.Test.YtfikeilpgnahkaaLent
namespace Go.Proofs.Ytfikeilpgnahkaa
open Go.RowKit

/-- what Dot answers -/
def dotV (a b : List UInt8) : UInt8 := if a.length = b.length ∧ a.length ≤ 256 then dotL a b else 0
def dotE (n m : Nat) : Nat := if n = m ∧ n ≤ 256 then 0 else 61

set_option maxRecDepth 100000 in
set_option maxHeartbeats 1000000 in
theorem dot_n (a a' : Option Addr) (c c' n n' : Nat) (l m : List UInt8) (w : World) (ha : BLies w a l) (hb : BLies w a' m) (hl : l.length = n) (hm : m.length = n') (hn : n ≤ maxLen) (hn' : n' ≤ maxLen) :
    Calls Try.prog 27 #[.slice a n c, .slice a' n' c'] w fun e w' => e = .returned (.tuple #[.int .u8 ((dotV l m).toNat : Int), .int .i64 (dotE n n' : Nat)]) ∧ w = w' := by
  unfold maxLen at hn hn'
  unfold dotV dotE
  rw [hl, hm]
  by_cases h1 : n = n'
  · by_cases h2 : n ≤ 256
    · rw [if_pos ⟨h1, h2⟩, if_pos ⟨h1, h2⟩]
      have hbn : ((n : Int) != (n' : Int)) = false := by simp [h1]
      have hbg : decide ((256 : Int) < (n : Int)) = false := by simp; omega
      have HA := Lib.hid ha
      have HB := Lib.hid hb
      have HL := Lib.hid hl
      have HM := Lib.hid hm
      have H1 := Lib.hid h1
      clear ha hb hl hm h1
      go_enter Try.func27, Try.ntmps27
      go_wp2_with fail
      go_loop [6, 21] (fun vs vi => ∃ k : Nat, k ≤ n ∧ vi = .int .i64 k ∧ vs = .int .u8 ((dotL (l.take k) (m.take k)).toNat : Int)) (fun _ vi => n - (intOf vi).toNat)
      case atStart => exact ⟨0, by omega, rfl, rfl⟩
      case round =>
        obtain ⟨k, hk, rfl, rfl⟩ := hrel
        by_cases hlt : k < n
        · obtain ⟨b, off, rfl, hc⟩ := HA.out k (by rw [HL.out]; exact hlt)
          have hlt2 : k < n' := by have := H1.out; omega
          obtain ⟨b', off', rfl, hc'⟩ := HB.out k (by rw [HM.out]; exact hlt2)
          have hx := xor_u8 (dotL (l.take k) (m.take k)) (gm (l[k]'(by rw [HL.out]; exact hlt)) (m[k]'(by rw [HM.out]; exact hlt2)))
          rw [← dotL_take (by rw [HL.out, HM.out, H1.out])] at hx
          go_wp2_with (go_at_call 19; refine (mul_i _ _ (l[k]'(by rw [HL.out]; exact hlt)) (m[k]'(by rw [HM.out]; exact hlt2)) _ rfl rfl).mono ?_; rintro e w' ⟨rfl, rfl⟩)
          go_round
          case rel => exact ⟨k + 1, by omega, by go_num, rfl⟩
          case measure => simp [intOf]; omega
        · obtain rfl : k = n := by omega
          have e1 : l.take k = l := List.take_of_length_le (by rw [HL.out]; exact Nat.le_refl _)
          have e2 : m.take k = m := List.take_of_length_le (by rw [HM.out, H1.out]; exact Nat.le_refl _)
          rw [e1, e2]
          clear e1 e2
          go_wp2_with fail
          go_ret2
          exact ⟨rfl, rfl⟩
    · rw [if_neg (by omega), if_neg (by omega)]
      have hbn : ((n : Int) != (n' : Int)) = false := by simp [h1]
      have hbg : decide ((256 : Int) < (n : Int)) = true := by simp; omega
      clear ha hb hl hm h1
      show Calls Try.prog 27 #[.slice a n c, .slice a' n' c'] w fun e w' => e = .returned (.tuple #[.int .u8 0, .int .i64 61]) ∧ w = w'
      go_enter Try.func27, Try.ntmps27
      go_wp2_with fail
      go_ret2
      exact ⟨rfl, rfl⟩
  · rw [if_neg (by omega), if_neg (by omega)]
    have hbn : ((n : Int) != (n' : Int)) = true := by rw [bne_iff_ne]; omega
    clear ha hb hl hm
    show Calls Try.prog 27 #[.slice a n c, .slice a' n' c'] w fun e w' => e = .returned (.tuple #[.int .u8 0, .int .i64 61]) ∧ w = w'
    go_enter Try.func27, Try.ntmps27
    go_wp2_with fail
    go_ret2
    exact ⟨rfl, rfl⟩

set_option maxRecDepth 100000 in
set_option maxHeartbeats 1000000 in
theorem refDot_n (a a' : Option Addr) (c c' n n' : Nat) (l m : List UInt8) (w : World) (ha : BLies w a l) (hb : BLies w a' m) (hl : l.length = n) (hm : m.length = n') (hn : n ≤ maxLen) (hn' : n' ≤ maxLen) :
    Calls Try.prog 31 #[.slice a n c, .slice a' n' c'] w fun e w' => e = .returned (.tuple #[.int .u8 ((dotV l m).toNat : Int), .int .i64 (dotE n n' : Nat)]) ∧ ∃ q, w' = w.drewN q := by
  unfold maxLen at hn hn'
  unfold dotV dotE
  rw [hl, hm]
  by_cases h1 : n = n'
  · by_cases h2 : n ≤ 256
    · rw [if_pos ⟨h1, h2⟩, if_pos ⟨h1, h2⟩]
      have hbn : ((n : Int) != (n' : Int)) = false := by simp [h1]
      have hbg : decide ((256 : Int) < (n : Int)) = false := by simp; omega
      have HA := Lib.hid ha
      have HB := Lib.hid hb
      have HL := Lib.hid hl
      have HM := Lib.hid hm
      have H1 := Lib.hid h1
      clear ha hb hl hm h1
      go_enter Try.func31, Try.ntmps31
      go_wp2_with fail
      go_loopw [6, 7] (fun vs vi wr => ∃ k q : Nat, k ≤ n ∧ vi = .int .i64 k ∧ vs = .int .u8 ((dotL (l.take k) (m.take k)).toNat : Int) ∧ wr = w.drewN q) (fun _ vi _ => n - (intOf vi).toNat)
      case atStart => exact ⟨0, 0, by omega, rfl, rfl, rfl⟩
      case round =>
        obtain ⟨k, q, hk, rfl, rfl, rfl⟩ := hrel
        by_cases hlt : k < n
        · obtain ⟨b, off, rfl, hc⟩ := HA.out k (by rw [HL.out]; exact hlt)
          have hlt2 : k < n' := by have := H1.out; omega
          obtain ⟨b', off', rfl, hc'⟩ := HB.out k (by rw [HM.out]; exact hlt2)
          have hx := xor_u8 (dotL (l.take k) (m.take k)) (gm (l[k]'(by rw [HL.out]; exact hlt)) (m[k]'(by rw [HM.out]; exact hlt2)))
          rw [← dotL_take (by rw [HL.out, HM.out, H1.out])] at hx
          go_wp2_with fail
          go_quiet ((go_at_call 18; exact quietS2 (refMul_i _ _ (l[k]'(by rw [HL.out]; exact hlt)) (m[k]'(by rw [HM.out]; exact hlt2)) _ rfl rfl)))
          go_wp2_with fail
          go_roundw
          case rel => exact ⟨k + 1, q + nq, by omega, by go_num, rfl, by simp⟩
          case measure => simp [intOf]; omega
        · obtain rfl : k = n := by omega
          have e1 : l.take k = l := List.take_of_length_le (by rw [HL.out]; exact Nat.le_refl _)
          have e2 : m.take k = m := List.take_of_length_le (by rw [HM.out, H1.out]; exact Nat.le_refl _)
          rw [e1, e2]
          clear e1 e2
          go_wp2_with fail
          go_ret2
          exact ⟨rfl, q, rfl⟩
    · rw [if_neg (by omega), if_neg (by omega)]
      have hbn : ((n : Int) != (n' : Int)) = false := by simp [h1]
      have hbg : decide ((256 : Int) < (n : Int)) = true := by simp; omega
      clear ha hb hl hm h1
      show Calls Try.prog 31 #[.slice a n c, .slice a' n' c'] w fun e w' => e = .returned (.tuple #[.int .u8 0, .int .i64 61]) ∧ ∃ q, w' = w.drewN q
      go_enter Try.func31, Try.ntmps31
      go_wp2_with fail
      go_ret2
      exact ⟨rfl, 0, rfl⟩
  · rw [if_neg (by omega), if_neg (by omega)]
    have hbn : ((n : Int) != (n' : Int)) = true := by rw [bne_iff_ne]; omega
    clear ha hb hl hm
    show Calls Try.prog 31 #[.slice a n c, .slice a' n' c'] w fun e w' => e = .returned (.tuple #[.int .u8 0, .int .i64 61]) ∧ ∃ q, w' = w.drewN q
    go_enter Try.func31, Try.ntmps31
    go_wp2_with fail
    go_ret2
    exact ⟨rfl, 0, rfl⟩

set_option maxRecDepth 100000 in
set_option maxHeartbeats 1000000 in
theorem eval_n (a : Option Addr) (c n : Nat) (l : List UInt8) (x : UInt8) (w : World) (ha : BLies w a l) (hl : l.length = n) (hn : n ≤ maxLen) :
    Calls Try.prog 29 #[.slice a n c, .int .u8 (x.toNat : Int)] w fun e w' => e = .returned (.int .u8 ((evL l x).toNat : Int)) ∧ ∃ q, w' = w.drewN q := by
  unfold maxLen at hn
  have HA := Lib.hid ha
  have HL := Lib.hid hl
  clear ha hl
  go_enter Try.func29, Try.ntmps29
  go_wp2_with fail
  go_loopw [5, 6] (fun vs vi wr => ∃ k q : Nat, k ≤ n ∧ vi = .int .i64 ((k : Int) - 1) ∧ vs = .int .u8 ((evL (l.drop k) x).toNat : Int) ∧ wr = w.drewN q) (fun _ vi _ => (intOf vi + 1).toNat)
  case atStart => exact ⟨n, 0, by omega, rfl, by rw [List.drop_of_length_le (by rw [HL.out]; exact Nat.le_refl _)]; rfl, rfl⟩
  case round =>
    obtain ⟨k, q, hk, rfl, rfl, rfl⟩ := hrel
    by_cases hlt : 0 < k
    · obtain ⟨k, rfl⟩ : ∃ j, k = j + 1 := ⟨k - 1, by omega⟩
      have hlt2 : k < n := by omega
      obtain ⟨b, off, rfl, hc⟩ := HA.out k (by rw [HL.out]; exact hlt2)
      have hx := xor_u8 (gm (evL (l.drop (k + 1)) x) x) (l[k]'(by rw [HL.out]; exact hlt2))
      rw [← evL_drop] at hx
      have ek : ((k + 1 : Nat) : Int) - 1 = (k : Int) := by omega
      rw [ek]
      clear ek
      have hd : decide ((0 : Int) ≤ (k : Int)) = true := by simp
      go_wp2_with fail
      go_quiet ((go_at_call 19; exact quietS2 (mul_i _ _ (evL (l.drop (k + 1)) x) x _ rfl rfl)))
      go_wp2_with fail
      go_roundw
      case rel => exact ⟨k, q + nq, by omega, rfl, rfl, by simp⟩
      case measure => simp [intOf]
    · obtain rfl : k = 0 := by omega
      rw [List.drop_zero]
      have ek : ((0 : Nat) : Int) - 1 = -1 := rfl
      rw [ek]
      clear ek
      go_wp2_with fail
      go_ret
      exact ⟨rfl, q, rfl⟩

set_option maxRecDepth 100000 in
set_option maxHeartbeats 1000000 in
theorem refEval_n (a : Option Addr) (c n : Nat) (l : List UInt8) (x : UInt8) (w : World) (ha : BLies w a l) (hl : l.length = n) (hn : n ≤ maxLen) :
    Calls Try.prog 33 #[.slice a n c, .int .u8 (x.toNat : Int)] w fun e w' => e = .returned (.int .u8 ((evL l x).toNat : Int)) ∧ w = w' := by
  unfold maxLen at hn
  have HA := Lib.hid ha
  have HL := Lib.hid hl
  clear ha hl
  go_enter Try.func33, Try.ntmps33
  go_wp2_with fail
  go_loop [5, 6, 7] (fun vs vp vi => ∃ k : Nat, k ≤ n ∧ vi = .int .i64 k ∧ vs = .int .u8 ((evL (l.take k) x).toNat : Int) ∧ vp = .int .u8 ((gpow x k).toNat : Int)) (fun _ _ vi => n - (intOf vi).toNat)
  case atStart => exact ⟨0, by omega, rfl, rfl, rfl⟩
  case round =>
    obtain ⟨k, hk, rfl, rfl, rfl⟩ := hrel
    by_cases hlt : k < n
    · obtain ⟨b, off, rfl, hc⟩ := HA.out k (by rw [HL.out]; exact hlt)
      have hx := xor_u8 (evL (l.take k) x) (gm (l[k]'(by rw [HL.out]; exact hlt)) (gpow x k))
      rw [← evL_take] at hx
      go_wp2_with fail
      refine (refMul_i _ _ (l[k]'(by rw [HL.out]; exact hlt)) (gpow x k) _ rfl rfl).mono ?_
      rintro e w' ⟨rfl, rfl⟩
      go_wp2_with fail
      refine (refMul_i _ _ (gpow x k) x _ rfl rfl).mono ?_
      rintro e w' ⟨rfl, rfl⟩
      go_wp2_with fail
      go_round
      case rel => exact ⟨k + 1, by omega, by go_num, rfl, rfl⟩
      case measure => simp [intOf]; omega
    · obtain rfl : k = n := by omega
      have e1 : l.take k = l := List.take_of_length_le (by rw [HL.out]; exact Nat.le_refl _)
      rw [e1]
      clear e1
      go_wp2_with fail
      go_ret
      exact ⟨rfl, rfl⟩

end Go.Proofs.Ytfikeilpgnahkaa
