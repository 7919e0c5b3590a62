/- strongroomkit.markBytes, SameBytes. -/
import Derived.Test.YthemlaibjchjpaaBase
namespace Go.Proofs.Ythemlaibjchjpaa
open Go.RowKit

/-- the mark of place i of list k -/
def mrk (k i : Int) : UInt8 := UInt8.ofNat ((151 * k + 7 * i + 1) % 256).toNat
theorem mrk_toNat (k i : Int) : ((mrk k i).toNat : Int) = (151 * k + 7 * i + 1) % 256 := by
  unfold mrk
  rw [UInt8.toNat_ofNat']
  omega

set_option maxHeartbeats 400000 in
theorem mark_any (k i : Int) (w : World) (hk : 0 ≤ k ∧ k ≤ 1000000000) (hi : 0 ≤ i ∧ i ≤ 1000000000000) :
    Calls Try.prog 59 #[.int .i64 k, .int .i64 i] w fun e w' => e = .returned (.int .u8 ((mrk k i).toNat : Int)) ∧ w = w' := by
  obtain ⟨k1, k2⟩ := hk
  obtain ⟨i1, i2⟩ := hi
  rw [mrk_toNat]
  go_enter Try.func59, Try.ntmps59
  go_wp2
  go_ret
  exact ⟨rfl, rfl⟩

theorem ret_bool {a b : Bool} (h : a = b) : Ending.returned (.bool a) = .returned (.bool b) := by rw [h]

theorem take_step {l m : List UInt8} {k : Nat} (hl : k < l.length) (hm : k < m.length) (h : l.take k = m.take k) (e : l[k] = m[k]) : l.take (k + 1) = m.take (k + 1) := by
  rw [List.take_succ_eq_append_getElem hl, List.take_succ_eq_append_getElem hm, h, e]

set_option maxHeartbeats 400000 in
theorem same_any (a a' : Option Addr) (c c' : Nat) (la lb : List UInt8) (w : World) (ha : BLies w a la) (hb : BLies w a' lb) (hn : la.length ≤ maxLen) :
    Calls Try.prog 19 #[.slice a la.length c, .slice a' lb.length c'] w fun e w' => e = .returned (.bool (decide (la = lb))) ∧ ∃ n, w' = w.drewN n := by
  unfold maxLen at hn
  have HA : Hid (BLies w a la) := ha
  have HB : Hid (BLies w a' lb) := hb
  clear ha hb
  by_cases hl : la.length = lb.length
  · have hlb : ((la.length : Int) != (lb.length : Int)) = false := by simp [hl]
    have HL : Hid (la.length = lb.length) := hl
    clear hl
    go_enter Try.func19, Try.ntmps19
    go_wp2
    go_loopw [5] (fun i wr => ∃ k n : Nat, k ≤ la.length ∧ i = .int .i64 k ∧ wr = w.drewN n ∧ la.take k = lb.take k) (fun i _ => la.length - (intOf i).toNat)
    case atStart => exact ⟨0, 0, by omega, rfl, rfl, by simp⟩
    case round =>
      obtain ⟨k, n, hk, rfl, rfl, ht⟩ := hrel
      have HT : Hid (la.take k = lb.take k) := ht
      clear ht
      by_cases hlt : k < la.length
      · have hlt2 : k < lb.length := by have := HL.out; omega
        obtain ⟨b, off, rfl, hc⟩ := HA.out k hlt
        obtain ⟨b', off', rfl, hc'⟩ := HB.out k hlt2
        by_cases he : la[k] = lb[k]
        · have hbn : (((la[k]).toNat : Int) != ((lb[k]).toNat : Int)) = false := by simp [he]
          go_wp2
          go_quiet (fail)
          go_wp2
          go_roundw
          case rel => exact ⟨k + 1, n + nq, by omega, by go_num, by simp, take_step hlt hlt2 HT.out he⟩
          case measure => simp [intOf]; omega
        · have hbn : (((la[k]).toNat : Int) != ((lb[k]).toNat : Int)) = true := by
            rw [bne_iff_ne]
            intro h
            exact he (UInt8.toNat_inj.1 (by omega))
          go_wp2
          go_quiet (fail)
          go_wp2
          go_ret
          exact ⟨ret_bool (by rw [eq_comm, decide_eq_false_iff_not]; rintro rfl; exact he rfl), n + nq, by simp⟩
      · go_wp2
        go_ret
        exact ⟨ret_bool (by have h1 := HT.out; have h2 := HL.out; rw [eq_comm, decide_eq_true_iff]; rwa [List.take_of_length_le (by omega), List.take_of_length_le (by omega)] at h1), _, rfl⟩
  · have hlb : ((la.length : Int) != (lb.length : Int)) = true := by rw [bne_iff_ne]; omega
    go_enter Try.func19, Try.ntmps19
    go_wp2
    go_ret
    exact ⟨ret_bool (by rw [eq_comm, decide_eq_false_iff_not]; rintro rfl; exact hl rfl), 0, rfl⟩

theorem same_n (a a' : Option Addr) (c c' n n' : Nat) (la lb : List UInt8) (w : World) (ha : BLies w a la) (hb : BLies w a' lb) (hla : la.length = n) (hlb : lb.length = n') (hn : n ≤ maxLen) :
    Calls Try.prog 19 #[.slice a n c, .slice a' n' c'] w fun e w' => e = .returned (.bool (decide (la = lb))) ∧ ∃ n, w' = w.drewN n := by
  subst hla; subst hlb
  exact same_any a a' c c' la lb w ha hb hn
/-- two lists that are the same -/
theorem same_yes (a a' : Option Addr) (c c' n n' : Nat) (la : List UInt8) (w : World) (ha : BLies w a la) (hb : BLies w a' la) (hla : la.length = n) (hlb : la.length = n') (hn : n ≤ maxLen) :
    Calls Try.prog 19 #[.slice a n c, .slice a' n' c'] w fun e w' => e = .returned (.bool true) ∧ ∃ n, w' = w.drewN n :=
  (same_n a a' c c' n n' la la w ha hb hla hlb hn).mono fun e w' ⟨h1, h2⟩ => ⟨by rw [h1]; simp, h2⟩

end Go.Proofs.Ythemlaibjchjpaa
