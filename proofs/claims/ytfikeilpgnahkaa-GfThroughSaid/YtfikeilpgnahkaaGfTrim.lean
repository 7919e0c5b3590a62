/- gf: trim, term; the document's Cut. -/
import Derived.Test.YtfikeilpgnahkaaGfScale
import Derived.Test.YtfikeilpgnahkaaRow
namespace Go.Proofs.Ytfikeilpgnahkaa
open Go.RowKit

/-- how many are left of the first k when the noughts behind are taken off -/
def trimN (l : List UInt8) : Nat → Nat
  | 0 => 0
  | k + 1 => if l.getD k 0 = 0 then trimN l k else k + 1
theorem trimN_le (l : List UInt8) : ∀ k, trimN l k ≤ k
  | 0 => Nat.le_refl _
  | k + 1 => by
    unfold trimN
    split
    · exact Nat.le_succ_of_le (trimN_le l k)
    · exact Nat.le_refl _
def trimL (l : List UInt8) : List UInt8 := l.take (trimN l l.length)
theorem trimL_len (l : List UInt8) : (trimL l).length = trimN l l.length := by
  unfold trimL
  rw [List.length_take, Nat.min_eq_left (trimN_le _ _)]

set_option maxRecDepth 100000 in
set_option maxHeartbeats 1000000 in
theorem trim_n (a : Option Addr) (c n : Nat) (l : List UInt8) (w : World) (ha : BLies w a l) (hl : l.length = n) (hn : n ≤ maxLen) (hc : n ≤ c) :
    Calls Try.prog 54 #[.slice a n c] w fun e w' => e = .returned (.slice a (trimN l n) c) ∧ w = w' := by
  unfold maxLen at hn
  have HA := Lib.hid ha
  have HL := Lib.hid hl
  clear ha hl
  go_enter Try.func54, Try.ntmps54
  go_wp2
  go_loop [0] (fun v => ∃ k : Nat, k ≤ n ∧ v = .slice a k c ∧ trimN l k = trimN l n) (fun v => match v with | .slice _ k _ => k | _ => 0)
  case atStart => exact ⟨n, by omega, rfl, rfl⟩
  case round =>
    obtain ⟨k, hk, rfl, ht⟩ := hrel
    have HT := Lib.hid ht
    clear ht
    rcases Nat.eq_zero_or_pos k with rfl | hpos
    · have h0 : trimN l n = 0 := by rw [← HT.out]; rfl
      go_wp2_with fail
      go_ret
      first | exact ⟨rfl, rfl⟩ | (rw [h0]; exact ⟨rfl, rfl⟩)
    · obtain ⟨j, rfl⟩ : ∃ j, k = j + 1 := ⟨k - 1, by omega⟩
      have hjl : j < l.length := by rw [HL.out]; omega
      obtain ⟨b, off, rfl, hc2⟩ := HA.out j hjl
      have e1 : IntKind.i64.wrap (((j + 1 : Nat) : Int) - 1) = (j : Int) := by rw [show ((j + 1 : Nat) : Int) - 1 = (j : Int) by omega]; exact IntWalk.i64_in _ (by omega)
      have hd : l.getD j 0 = l[j] := by simp [hjl]
      by_cases hz : l[j] = 0
      · have h0 : trimN l n = trimN l j := by rw [← HT.out]; rw [trimN, hd, if_pos hz]
        rw [hz] at hc2
        have H0 := Lib.hid h0
        clear h0 hd hz
        go_wp2_with fail
        go_round
        case rel => exact ⟨j, by omega, rfl, H0.out.symm⟩
        case measure => simp
      · have h0 : trimN l n = j + 1 := by rw [← HT.out]; rw [trimN, hd, if_neg hz]
        have hz2 : ((l[j].toNat : Int) == 0) = false := by
          simp only [beq_eq_false_iff_ne, ne_eq]
          intro h
          apply hz
          exact UInt8.toNat.inj (by simpa using h)
        obtain ⟨y, hy⟩ : ∃ y, y = l[j] := ⟨_, rfl⟩
        rw [← hy] at hc2 hz2
        have H0 := Lib.hid h0
        clear h0 hd hz hy
        go_wp2_with fail
        go_ret
        first | exact ⟨rfl, rfl⟩ | (rw [H0.out]; exact ⟨rfl, rfl⟩)

set_option maxRecDepth 100000 in
set_option maxHeartbeats 1000000 in
theorem cut_n (a : Option Addr) (c n : Nat) (l : List UInt8) (w : World) (ha : BLies w a l) (hl : l.length = n) (hn : n ≤ maxLen) (hc : n ≤ c) :
    Calls Try.prog 58 #[.slice a n c] w fun e w' => e = .returned (.slice a (trimN l n) c) ∧ w = w' := by
  unfold maxLen at hn
  have HA := Lib.hid ha
  have HL := Lib.hid hl
  have hle := trimN_le l n
  clear ha hl
  go_enter Try.func58, Try.ntmps58
  go_wp2
  go_loop [3] (fun v => ∃ k : Nat, k ≤ n ∧ v = .int .i64 k ∧ trimN l k = trimN l n) (fun v => (intOf v).toNat)
  case atStart => exact ⟨n, by omega, rfl, rfl⟩
  case round =>
    obtain ⟨k, hk, rfl, ht⟩ := hrel
    have HT := Lib.hid ht
    clear ht
    rcases Nat.eq_zero_or_pos k with rfl | hpos
    · have h0 : trimN l n = 0 := by rw [← HT.out]; rfl
      rw [show ((0 : Nat) : Int) = 0 from rfl]
      go_wp2_with fail
      go_ret
      first | exact ⟨rfl, rfl⟩ | (rw [h0]; exact ⟨rfl, rfl⟩)
    · obtain ⟨j, rfl⟩ : ∃ j, k = j + 1 := ⟨k - 1, by omega⟩
      have hjl : j < l.length := by rw [HL.out]; omega
      obtain ⟨b, off, rfl, hc2⟩ := HA.out j hjl
      have e1 : IntKind.i64.wrap (((j + 1 : Nat) : Int) - 1) = (j : Int) := by rw [show ((j + 1 : Nat) : Int) - 1 = (j : Int) by omega]; exact IntWalk.i64_in _ (by omega)
      have hd : l.getD j 0 = l[j] := by simp [hjl]
      by_cases hz : l[j] = 0
      · have h0 : trimN l n = trimN l j := by rw [← HT.out]; rw [trimN, hd, if_pos hz]
        rw [hz] at hc2
        have H0 := Lib.hid h0
        clear h0 hd hz
        go_wp2_with fail
        go_round
        case rel => exact ⟨j, by omega, by first | rfl | go_num, H0.out.symm⟩
        case measure => simp [intOf]
      · have h0 : trimN l n = j + 1 := by rw [← HT.out]; rw [trimN, hd, if_neg hz]
        have hz2 : ((l[j].toNat : Int) == 0) = false := by
          simp only [beq_eq_false_iff_ne, ne_eq]
          intro h
          apply hz
          exact UInt8.toNat.inj (by simpa using h)
        obtain ⟨y, hy⟩ : ∃ y, y = l[j] := ⟨_, rfl⟩
        rw [← hy] at hc2 hz2
        have H0 := Lib.hid h0
        clear h0 hd hz hy
        go_wp2_with fail
        go_ret
        first | exact ⟨rfl, rfl⟩ | (rw [H0.out]; exact ⟨rfl, rfl⟩)

set_option maxRecDepth 100000 in
set_option maxHeartbeats 1000000 in
theorem term_n (f : FuncId) (cap : Array Value) (a : Option Addr) (c n : Nat) (l : List UInt8) (w : World) (J : Nat → World → Prop) (hl : l.length = n) (hn : n ≤ maxLen) (hent : ∀ args w, (callFunc f args).run Try.prog w = .ok (.enter f args) w)
    (hread : ∀ k W, J k W → BLies W a l)
    (hstep : ∀ k W (hk : k < l.length), J k W → Calls Try.prog f (#[.int .i64 (k : Int), .int .u8 ((l[k]).toNat : Int)] ++ cap) W fun e W' => e = .returned (.tuple #[]) ∧ J (k + 1) W')
    (h0 : J 0 w) :
    Calls Try.prog 56 #[.slice a n c, .func (.func f) #[] cap] w fun e w' => e = .returned (.tuple #[]) ∧ J n w' := by
  unfold maxLen at hn
  have HR := Lib.hid hread
  have HS := Lib.hid hstep
  have HL := Lib.hid hl
  have H0 := Lib.hid h0
  clear hl hread hstep h0
  go_enter Try.func56, Try.ntmps56
  go_wp2
  go_loopw [8] (fun v wr => ∃ k : Nat, k ≤ n ∧ v = .int .i64 k ∧ J k wr) (fun v _ => n - (intOf v).toNat)
  case atStart => exact ⟨0, by omega, rfl, H0.out⟩
  case round =>
    obtain ⟨k, hk, rfl, hj⟩ := hrel
    have HJ := Lib.hid hj
    clear hj
    by_cases hlt : k < n
    · obtain ⟨b, off, rfl, hc2⟩ := HR.out k wr HJ.out k (by rw [HL.out]; exact hlt)
      obtain ⟨y, hy⟩ : ∃ y, y = l[k]'(by rw [HL.out]; exact hlt) := ⟨_, rfl⟩
      have hst := HS.out k wr (by rw [HL.out]; exact hlt) HJ.out
      rw [← hy] at hc2 hst
      have HST := Lib.hid hst
      clear hst hy
      go_wp2_with fail
      refine HST.out.mono ?_
      rintro e W' ⟨rfl, hJ'⟩
      have HJ' := Lib.hid hJ'
      clear hJ' hc2
      go_wp2_with fail
      go_roundw
      case rel => exact ⟨k + 1, by omega, by go_num, HJ'.out⟩
      case measure => simp [intOf]; omega
    · obtain rfl : k = n := by omega
      go_wp2_with fail
      go_end0
      exact ⟨rfl, HJ.out⟩

end Go.Proofs.Ytfikeilpgnahkaa
