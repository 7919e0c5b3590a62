/- octet.Small at each instance. -/
import Derived.Test.YthemlaibjchjpaaBig
namespace Go.Proofs.Ythemlaibjchjpaa
open Go.RowKit

/-- the number of which these are the bytes -/
def smallL (l : List UInt8) : Nat := l.foldl (fun x b => x * 256 + b.toNat) 0
theorem smallL_snoc (l : List UInt8) (b : UInt8) : smallL (l ++ [b]) = smallL l * 256 + b.toNat := by simp [smallL]
theorem smallL_lt : ∀ (n : Nat) (l : List UInt8), l.length = n → smallL l < 256 ^ n := by
  intro n
  induction n with
  | zero => intro l hl; simp [List.eq_nil_of_length_eq_zero hl, smallL]
  | succ n ih =>
    intro l hl
    obtain ⟨m, b, rfl⟩ : ∃ m b, l = m ++ [b] := ⟨l.dropLast, l.getLast (by intro h; simp [h] at hl), (List.dropLast_concat_getLast _).symm⟩
    rw [smallL_snoc]
    have := ih m (by simpa using hl)
    have := b.toNat_lt
    rw [Nat.pow_succ]
    omega
theorem smallL_take {l : List UInt8} {k : Nat} (h : k < l.length) : smallL (l.take (k + 1)) = smallL (l.take k) * 256 + (l[k]).toNat := by
  rw [List.take_succ_eq_append_getElem h, smallL_snoc]
theorem smallL_le {l : List UInt8} {k : Nat} (h : k ≤ l.length) (h7 : k ≤ 7) : smallL (l.take k) ≤ 72057594037927935 := by
  have h1 := smallL_lt k (l.take k) (by simp; omega)
  have h2 : 256 ^ k ≤ 256 ^ 7 := Nat.pow_le_pow_right (by omega) h7
  omega

theorem or_byte (x c : Nat) (hx : x ≤ 72057594037927935) (hc : c < 256) : bits .or .u64 ((x : Int) * 256) (c : Int) = ((x * 256 + c : Nat) : Int) := by
  have e1 : ((x : Int) * 256) = ((x * 256 : Nat) : Int) := by simp
  have e2 : x * 256 + c = x * 256 ||| c := by
    have := Nat.shiftLeft_add_eq_or_of_lt (i := 8) (b := c) (by omega) x
    rwa [Nat.shiftLeft_eq] at this
  rw [e1, bits_or_u64_nat _ _ (by omega) (by omega), e2]

set_option maxRecDepth 100000 in
set_option maxHeartbeats 400000 in
theorem small8_any (a : Option Addr) (c n : Nat) (l : List UInt8) (w : World) (ha : BLies w a l) (hn : l.length = n) (hm : n ≤ maxLen) :
    Calls Try.prog 64 #[.slice a n c] w fun e w' => e = .returned (if n < 1 then .tuple #[.int .u8 0, .int .i64 10] else if 1 < n then .tuple #[.int .u8 0, .int .i64 11] else .tuple #[.int .u8 (smallL l), .int .i64 0]) ∧ w = w' := by
  unfold maxLen at hm
  by_cases h1 : n < 1
  · have e : ∀ x y : Value, (if n < 1 then x else y) = x := fun x y => by rw [if_pos h1]
    rw [e]
    clear e
    go_enter Try.func64, Try.ntmps64
    go_wp2_with (go_at_call 78; refine (width8_any _).mono ?_; rintro e w' ⟨rfl, rfl⟩)
    go_ret2
    exact ⟨rfl, rfl⟩
  by_cases h2 : 1 < n
  · have e : ∀ x y z : Value, (if n < 1 then x else if 1 < n then y else z) = y := fun x y z => by rw [if_neg h1, if_pos h2]
    rw [e]
    clear e
    go_enter Try.func64, Try.ntmps64
    go_wp2_with (go_at_call 78; refine (width8_any _).mono ?_; rintro e w' ⟨rfl, rfl⟩)
    go_ret2
    exact ⟨rfl, rfl⟩
  have e : ∀ x y z : Value, (if n < 1 then x else if 1 < n then y else z) = z := fun x y z => by rw [if_neg h1, if_neg h2]
  rw [e]
  clear e
  obtain rfl : n = 1 := by omega
  clear h1 h2
  have HA : Hid (BLies w a l) := ha
  have HN := Lib.hid hn
  have hm0 : smallL l < 256 := by have := smallL_lt _ l hn; simpa using this
  have HM := Lib.hid hm0
  clear hm0
  clear ha hn hm
  go_enter Try.func64, Try.ntmps64
  go_wp2_with (go_at_call 78; refine (width8_any _).mono ?_; rintro e w' ⟨rfl, rfl⟩)
  go_loop [5, 21] (fun x i => ∃ k : Nat, k ≤ 1 ∧ i = .int .i64 k ∧ x = .int .u64 (smallL (l.take k))) (fun _ i => 1 - (intOf i).toNat)
  case atStart => exact ⟨0, by omega, rfl, rfl⟩
  case round =>
    obtain ⟨k, hk, rfl, rfl⟩ := hrel
    by_cases hlt : k < 1
    · obtain ⟨b, off, rfl, hc⟩ := HA.out k (by rw [HN.out]; exact hlt)
      have hle := smallL_le (l := l) (k := k) (by rw [HN.out]; omega) (by omega)
      have hb := (l[k]'(by rw [HN.out]; exact hlt)).toNat_lt
      go_wp2
      go_round
      case rel => exact ⟨k + 1, by omega, by go_num, by rw [or_byte _ _ hle hb, smallL_take (by rw [HN.out]; exact hlt)]⟩
      case measure => simp [intOf]; omega
    · obtain rfl : k = 1 := by omega
      have hle := HM.out
      have e0 : l.take 1 = l := List.take_of_length_le (by rw [HN.out]; omega)
      rw [e0]
      clear e0
      go_wp2
      go_ret2
      exact ⟨rfl, rfl⟩

set_option maxRecDepth 100000 in
set_option maxHeartbeats 400000 in
theorem small16_any (a : Option Addr) (c n : Nat) (l : List UInt8) (w : World) (ha : BLies w a l) (hn : l.length = n) (hm : n ≤ maxLen) :
    Calls Try.prog 65 #[.slice a n c] w fun e w' => e = .returned (if n < 2 then .tuple #[.int .u16 0, .int .i64 10] else if 2 < n then .tuple #[.int .u16 0, .int .i64 11] else .tuple #[.int .u16 (smallL l), .int .i64 0]) ∧ w = w' := by
  unfold maxLen at hm
  by_cases h1 : n < 2
  · have e : ∀ x y : Value, (if n < 2 then x else y) = x := fun x y => by rw [if_pos h1]
    rw [e]
    clear e
    go_enter Try.func65, Try.ntmps65
    go_wp2_with (go_at_call 75; refine (width16_any _).mono ?_; rintro e w' ⟨rfl, rfl⟩)
    go_ret2
    exact ⟨rfl, rfl⟩
  by_cases h2 : 2 < n
  · have e : ∀ x y z : Value, (if n < 2 then x else if 2 < n then y else z) = y := fun x y z => by rw [if_neg h1, if_pos h2]
    rw [e]
    clear e
    go_enter Try.func65, Try.ntmps65
    go_wp2_with (go_at_call 75; refine (width16_any _).mono ?_; rintro e w' ⟨rfl, rfl⟩)
    go_ret2
    exact ⟨rfl, rfl⟩
  have e : ∀ x y z : Value, (if n < 2 then x else if 2 < n then y else z) = z := fun x y z => by rw [if_neg h1, if_neg h2]
  rw [e]
  clear e
  obtain rfl : n = 2 := by omega
  clear h1 h2
  have HA : Hid (BLies w a l) := ha
  have HN := Lib.hid hn
  have hm0 : smallL l < 65536 := by have := smallL_lt _ l hn; simpa using this
  have HM := Lib.hid hm0
  clear hm0
  clear ha hn hm
  go_enter Try.func65, Try.ntmps65
  go_wp2_with (go_at_call 75; refine (width16_any _).mono ?_; rintro e w' ⟨rfl, rfl⟩)
  go_loop [5, 21] (fun x i => ∃ k : Nat, k ≤ 2 ∧ i = .int .i64 k ∧ x = .int .u64 (smallL (l.take k))) (fun _ i => 2 - (intOf i).toNat)
  case atStart => exact ⟨0, by omega, rfl, rfl⟩
  case round =>
    obtain ⟨k, hk, rfl, rfl⟩ := hrel
    by_cases hlt : k < 2
    · obtain ⟨b, off, rfl, hc⟩ := HA.out k (by rw [HN.out]; exact hlt)
      have hle := smallL_le (l := l) (k := k) (by rw [HN.out]; omega) (by omega)
      have hb := (l[k]'(by rw [HN.out]; exact hlt)).toNat_lt
      go_wp2
      go_round
      case rel => exact ⟨k + 1, by omega, by go_num, by rw [or_byte _ _ hle hb, smallL_take (by rw [HN.out]; exact hlt)]⟩
      case measure => simp [intOf]; omega
    · obtain rfl : k = 2 := by omega
      have hle := HM.out
      have e0 : l.take 2 = l := List.take_of_length_le (by rw [HN.out]; omega)
      rw [e0]
      clear e0
      go_wp2
      go_ret2
      exact ⟨rfl, rfl⟩

set_option maxRecDepth 100000 in
set_option maxHeartbeats 400000 in
theorem small32_any (a : Option Addr) (c n : Nat) (l : List UInt8) (w : World) (ha : BLies w a l) (hn : l.length = n) (hm : n ≤ maxLen) :
    Calls Try.prog 51 #[.slice a n c] w fun e w' => e = .returned (if n < 4 then .tuple #[.int .u32 0, .int .i64 10] else if 4 < n then .tuple #[.int .u32 0, .int .i64 11] else .tuple #[.int .u32 (smallL l), .int .i64 0]) ∧ w = w' := by
  unfold maxLen at hm
  by_cases h1 : n < 4
  · have e : ∀ x y : Value, (if n < 4 then x else y) = x := fun x y => by rw [if_pos h1]
    rw [e]
    clear e
    go_enter Try.func51, Try.ntmps51
    go_wp2_with (go_at_call 77; refine (width32_any _).mono ?_; rintro e w' ⟨rfl, rfl⟩)
    go_ret2
    exact ⟨rfl, rfl⟩
  by_cases h2 : 4 < n
  · have e : ∀ x y z : Value, (if n < 4 then x else if 4 < n then y else z) = y := fun x y z => by rw [if_neg h1, if_pos h2]
    rw [e]
    clear e
    go_enter Try.func51, Try.ntmps51
    go_wp2_with (go_at_call 77; refine (width32_any _).mono ?_; rintro e w' ⟨rfl, rfl⟩)
    go_ret2
    exact ⟨rfl, rfl⟩
  have e : ∀ x y z : Value, (if n < 4 then x else if 4 < n then y else z) = z := fun x y z => by rw [if_neg h1, if_neg h2]
  rw [e]
  clear e
  obtain rfl : n = 4 := by omega
  clear h1 h2
  have HA : Hid (BLies w a l) := ha
  have HN := Lib.hid hn
  have hm0 : smallL l < 4294967296 := by have := smallL_lt _ l hn; simpa using this
  have HM := Lib.hid hm0
  clear hm0
  clear ha hn hm
  go_enter Try.func51, Try.ntmps51
  go_wp2_with (go_at_call 77; refine (width32_any _).mono ?_; rintro e w' ⟨rfl, rfl⟩)
  go_loop [5, 21] (fun x i => ∃ k : Nat, k ≤ 4 ∧ i = .int .i64 k ∧ x = .int .u64 (smallL (l.take k))) (fun _ i => 4 - (intOf i).toNat)
  case atStart => exact ⟨0, by omega, rfl, rfl⟩
  case round =>
    obtain ⟨k, hk, rfl, rfl⟩ := hrel
    by_cases hlt : k < 4
    · obtain ⟨b, off, rfl, hc⟩ := HA.out k (by rw [HN.out]; exact hlt)
      have hle := smallL_le (l := l) (k := k) (by rw [HN.out]; omega) (by omega)
      have hb := (l[k]'(by rw [HN.out]; exact hlt)).toNat_lt
      go_wp2
      go_round
      case rel => exact ⟨k + 1, by omega, by go_num, by rw [or_byte _ _ hle hb, smallL_take (by rw [HN.out]; exact hlt)]⟩
      case measure => simp [intOf]; omega
    · obtain rfl : k = 4 := by omega
      have hle := HM.out
      have e0 : l.take 4 = l := List.take_of_length_le (by rw [HN.out]; omega)
      rw [e0]
      clear e0
      go_wp2
      go_ret2
      exact ⟨rfl, rfl⟩

set_option maxRecDepth 100000 in
set_option maxHeartbeats 400000 in
theorem small64_any (a : Option Addr) (c n : Nat) (l : List UInt8) (w : World) (ha : BLies w a l) (hn : l.length = n) (hm : n ≤ maxLen) :
    Calls Try.prog 66 #[.slice a n c] w fun e w' => e = .returned (if n < 8 then .tuple #[.int .u64 0, .int .i64 10] else if 8 < n then .tuple #[.int .u64 0, .int .i64 11] else .tuple #[.int .u64 (smallL l), .int .i64 0]) ∧ w = w' := by
  unfold maxLen at hm
  by_cases h1 : n < 8
  · have e : ∀ x y : Value, (if n < 8 then x else y) = x := fun x y => by rw [if_pos h1]
    rw [e]
    clear e
    go_enter Try.func66, Try.ntmps66
    go_wp2_with (go_at_call 76; refine (width64_any _).mono ?_; rintro e w' ⟨rfl, rfl⟩)
    go_ret2
    exact ⟨rfl, rfl⟩
  by_cases h2 : 8 < n
  · have e : ∀ x y z : Value, (if n < 8 then x else if 8 < n then y else z) = y := fun x y z => by rw [if_neg h1, if_pos h2]
    rw [e]
    clear e
    go_enter Try.func66, Try.ntmps66
    go_wp2_with (go_at_call 76; refine (width64_any _).mono ?_; rintro e w' ⟨rfl, rfl⟩)
    go_ret2
    exact ⟨rfl, rfl⟩
  have e : ∀ x y z : Value, (if n < 8 then x else if 8 < n then y else z) = z := fun x y z => by rw [if_neg h1, if_neg h2]
  rw [e]
  clear e
  obtain rfl : n = 8 := by omega
  clear h1 h2
  have HA : Hid (BLies w a l) := ha
  have HN := Lib.hid hn
  have hm0 : smallL l < 18446744073709551616 := by have := smallL_lt _ l hn; simpa using this
  have HM := Lib.hid hm0
  clear hm0
  clear ha hn hm
  go_enter Try.func66, Try.ntmps66
  go_wp2_with (go_at_call 76; refine (width64_any _).mono ?_; rintro e w' ⟨rfl, rfl⟩)
  go_loop [5, 21] (fun x i => ∃ k : Nat, k ≤ 8 ∧ i = .int .i64 k ∧ x = .int .u64 (smallL (l.take k))) (fun _ i => 8 - (intOf i).toNat)
  case atStart => exact ⟨0, by omega, rfl, rfl⟩
  case round =>
    obtain ⟨k, hk, rfl, rfl⟩ := hrel
    by_cases hlt : k < 8
    · obtain ⟨b, off, rfl, hc⟩ := HA.out k (by rw [HN.out]; exact hlt)
      have hle := smallL_le (l := l) (k := k) (by rw [HN.out]; omega) (by omega)
      have hb := (l[k]'(by rw [HN.out]; exact hlt)).toNat_lt
      go_wp2
      go_round
      case rel => exact ⟨k + 1, by omega, by go_num, by rw [or_byte _ _ hle hb, smallL_take (by rw [HN.out]; exact hlt)]⟩
      case measure => simp [intOf]; omega
    · obtain rfl : k = 8 := by omega
      have hle := HM.out
      have e0 : l.take 8 = l := List.take_of_length_le (by rw [HN.out]; omega)
      rw [e0]
      clear e0
      go_wp2
      go_ret2
      exact ⟨rfl, rfl⟩

end Go.Proofs.Ythemlaibjchjpaa
