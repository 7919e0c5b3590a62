/- The law's own small functions: width, cut, big, small. -/
import Derived.Test.YthemlaibjchjpaaRefBig
namespace Go.Proofs.Ythemlaibjchjpaa
open Go.RowKit

/-- the width that is meant -/
def Wd (w : Int) (k : Nat) : Prop := (w = 1 ∧ k = 1) ∨ (w = 2 ∧ k = 2) ∨ (w = 4 ∧ k = 4) ∨ (w ≠ 1 ∧ w ≠ 2 ∧ w ≠ 4 ∧ k = 8)
theorem Wd.ex (w : Int) : ∃ k, Wd w k := by
  by_cases h1 : w = 1
  · exact ⟨1, .inl ⟨h1, rfl⟩⟩
  by_cases h2 : w = 2
  · exact ⟨2, .inr (.inl ⟨h2, rfl⟩)⟩
  by_cases h4 : w = 4
  · exact ⟨4, .inr (.inr (.inl ⟨h4, rfl⟩))⟩
  exact ⟨8, .inr (.inr (.inr ⟨h1, h2, h4, rfl⟩))⟩
theorem Wd.le {w : Int} {k : Nat} (h : Wd w k) : k ≤ 8 := by rcases h with ⟨_, rfl⟩ | ⟨_, rfl⟩ | ⟨_, rfl⟩ | ⟨_, _, _, rfl⟩ <;> omega

/-- a number as it is in a width -/
def cutN (k x : Nat) : Nat := x % 256 ^ k
theorem cutN_lt {k x : Nat} (hx : x < 18446744073709551616) : cutN k x < 18446744073709551616 := Nat.lt_of_le_of_lt (Nat.mod_le _ _) hx

set_option maxRecDepth 100000 in
theorem width_any (v : Int) (k : Nat) (h : Wd v k) (w : World) : Calls Try.prog 24 #[.int .i64 v] w fun e w' => e = .returned (.int .i64 k) ∧ w = w' := by
  rcases h with ⟨rfl, rfl⟩ | ⟨rfl, rfl⟩ | ⟨rfl, rfl⟩ | ⟨h1, h2, h4, rfl⟩
  · go_enter Try.func24, Try.ntmps24
    go_wp2
    go_ret
    exact ⟨rfl, rfl⟩
  · go_enter Try.func24, Try.ntmps24
    go_wp2
    go_ret
    exact ⟨rfl, rfl⟩
  · go_enter Try.func24, Try.ntmps24
    go_wp2
    go_ret
    exact ⟨rfl, rfl⟩
  · have e1 : (v == 1) = false := by simpa using h1
    have e2 : (v == 2) = false := by simpa using h2
    have e4 : (v == 4) = false := by simpa using h4
    go_enter Try.func24, Try.ntmps24
    go_wp2
    go_ret
    exact ⟨rfl, rfl⟩

set_option maxRecDepth 100000 in
set_option maxHeartbeats 400000 in
theorem cut_any (x : Nat) (v : Int) (k : Nat) (hx : x < 18446744073709551616) (h : Wd v k) (w : World) : Calls Try.prog 23 #[.int .u64 x, .int .i64 v] w fun e w' => e = .returned (.int .u64 ((cutN k x : Nat) : Int)) ∧ w = w' := by
  have hw := width_any v k h
  have HW := Lib.hid hw
  clear hw
  unfold cutN
  rcases h with ⟨rfl, rfl⟩ | ⟨rfl, rfl⟩ | ⟨rfl, rfl⟩ | ⟨h1, h2, h4, rfl⟩
  · go_enter Try.func23, Try.ntmps23
    go_wp2_with (go_at_call 24; refine (HW.out _).mono ?_; rintro e w' ⟨rfl, rfl⟩)
    go_ret
    exact ⟨rfl, rfl⟩
  · go_enter Try.func23, Try.ntmps23
    go_wp2_with (go_at_call 24; refine (HW.out _).mono ?_; rintro e w' ⟨rfl, rfl⟩)
    go_ret
    exact ⟨rfl, rfl⟩
  · go_enter Try.func23, Try.ntmps23
    go_wp2_with (go_at_call 24; refine (HW.out _).mono ?_; rintro e w' ⟨rfl, rfl⟩)
    go_ret
    exact ⟨rfl, rfl⟩
  · rw [show x % 256 ^ 8 = x from Nat.mod_eq_of_lt (by simpa using hx)]
    clear h1 h2 h4
    go_enter Try.func23, Try.ntmps23
    go_wp2_with (go_at_call 24; refine (HW.out _).mono ?_; rintro e w' ⟨rfl, rfl⟩)
    go_ret
    exact ⟨rfl, rfl⟩


set_option maxRecDepth 100000 in
set_option maxHeartbeats 400000 in
theorem lawBig_any (x : Nat) (v : Int) (k : Nat) (hx : x < 18446744073709551616) (h : Wd v k) (w : World) : Calls Try.prog 25 #[.int .u64 x, .int .i64 v] w fun e w' => ∃ a c, e = .returned (.slice a k c) ∧ BOwn w' w.heap.size a k c (bigL k (cutN k x)) ∧ w.grownBy w' none := by
  have hw := width_any v k h
  have HW := Lib.hid hw
  clear hw
  rcases h with ⟨rfl, rfl⟩ | ⟨rfl, rfl⟩ | ⟨rfl, rfl⟩ | ⟨h1, h2, h4, rfl⟩
  · skip
    have e : ((x % 256 ^ 1 : Nat) : Int) = (x : Int) % 256 := by rw [Int.natCast_emod]; rfl
    have hc := big8_any (x % 256 ^ 1) (Nat.mod_lt _ (by decide)) w
    rw [e] at hc
    have HC := Lib.hid hc
    clear hc e
    go_enter Try.func25, Try.ntmps25
    go_wp2_with (first | (go_at_call 24; refine (HW.out _).mono ?_; rintro e w' ⟨rfl, rfl⟩) | (go_at_call 62; refine HC.out.mono ?_; rintro e w' ⟨rfl, rfl⟩))
    go_ret
    exact ⟨_, _, rfl, own_new _ _ _ (bigL_length _ _) (by decide), World.grownBy_alloc _ _ _⟩
  · skip
    have e : ((x % 256 ^ 2 : Nat) : Int) = (x : Int) % 65536 := by rw [Int.natCast_emod]; rfl
    have hc := big16_any (x % 256 ^ 2) (Nat.mod_lt _ (by decide)) w
    rw [e] at hc
    have HC := Lib.hid hc
    clear hc e
    go_enter Try.func25, Try.ntmps25
    go_wp2_with (first | (go_at_call 24; refine (HW.out _).mono ?_; rintro e w' ⟨rfl, rfl⟩) | (go_at_call 49; refine HC.out.mono ?_; rintro e w' ⟨rfl, rfl⟩))
    go_ret
    exact ⟨_, _, rfl, own_new _ _ _ (bigL_length _ _) (by decide), World.grownBy_alloc _ _ _⟩
  · skip
    have e : ((x % 256 ^ 4 : Nat) : Int) = (x : Int) % 4294967296 := by rw [Int.natCast_emod]; rfl
    have hc := big32_any (x % 256 ^ 4) (Nat.mod_lt _ (by decide)) w
    rw [e] at hc
    have HC := Lib.hid hc
    clear hc e
    go_enter Try.func25, Try.ntmps25
    go_wp2_with (first | (go_at_call 24; refine (HW.out _).mono ?_; rintro e w' ⟨rfl, rfl⟩) | (go_at_call 63; refine HC.out.mono ?_; rintro e w' ⟨rfl, rfl⟩))
    go_ret
    exact ⟨_, _, rfl, own_new _ _ _ (bigL_length _ _) (by decide), World.grownBy_alloc _ _ _⟩
  · clear h1 h2 h4
    have e : ((x % 256 ^ 8 : Nat) : Int) = (x : Int) := by rw [Nat.mod_eq_of_lt (by simpa using hx)]
    have hc := big64_any (x % 256 ^ 8) (Nat.mod_lt _ (by decide)) w
    rw [e] at hc
    have HC := Lib.hid hc
    clear hc e
    go_enter Try.func25, Try.ntmps25
    go_wp2_with (first | (go_at_call 24; refine (HW.out _).mono ?_; rintro e w' ⟨rfl, rfl⟩) | (go_at_call 50; refine HC.out.mono ?_; rintro e w' ⟨rfl, rfl⟩))
    go_ret
    exact ⟨_, _, rfl, own_new _ _ _ (bigL_length _ _) (by decide), World.grownBy_alloc _ _ _⟩

set_option maxRecDepth 100000 in
set_option maxHeartbeats 1000000 in
theorem lawSmall_any (a : Option Addr) (c n : Nat) (l : List UInt8) (v : Int) (k : Nat) (w : World) (ha : BLies w a l) (hn : l.length = n) (hm : n ≤ maxLen) (h : Wd v k) :
    Calls Try.prog 26 #[.slice a n c, .int .i64 v] w fun e w' => e = .returned (if n < k then .tuple #[.int .u64 0, .int .i64 10] else if k < n then .tuple #[.int .u64 0, .int .i64 11] else .tuple #[.int .u64 (smallL l), .int .i64 0]) ∧ w = w' := by
  have hw := width_any v k h
  have HW := Lib.hid hw
  clear hw
  rcases h with ⟨rfl, rfl⟩ | ⟨rfl, rfl⟩ | ⟨rfl, rfl⟩ | ⟨h1, h2, h4, rfl⟩
  · skip
    by_cases g1 : n < 1
    · have e : ∀ x y : Value, (if n < 1 then x else y) = x := fun x y => by rw [if_pos g1]
      have hc := small8_any a c n l w ha hn hm
      rw [e] at hc ⊢
      have HC := Lib.hid hc
      clear e hc
      go_enter Try.func26, Try.ntmps26
      go_wp2_with (first | (go_at_call 24; refine (HW.out _).mono ?_; rintro e w' ⟨rfl, rfl⟩) | (go_at_call 64; refine HC.out.mono ?_; rintro e w' ⟨rfl, rfl⟩))
      go_ret2
      exact ⟨rfl, rfl⟩
    · by_cases g2 : 1 < n
      · have e : ∀ x y z : Value, (if n < 1 then x else if 1 < n then y else z) = y := fun x y z => by rw [if_neg g1, if_pos g2]
        have hc := small8_any a c n l w ha hn hm
        rw [e] at hc ⊢
        have HC := Lib.hid hc
        clear e hc
        go_enter Try.func26, Try.ntmps26
        go_wp2_with (first | (go_at_call 24; refine (HW.out _).mono ?_; rintro e w' ⟨rfl, rfl⟩) | (go_at_call 64; refine HC.out.mono ?_; rintro e w' ⟨rfl, rfl⟩))
        go_ret2
        exact ⟨rfl, rfl⟩
      · have e : ∀ x y z : Value, (if n < 1 then x else if 1 < n then y else z) = z := fun x y z => by rw [if_neg g1, if_neg g2]
        have hc := small8_any a c n l w ha hn hm
        rw [e] at hc ⊢
        have HC := Lib.hid hc
        have hlt : smallL l < 256 := by have := smallL_lt 1 l (by omega); simpa using this
        clear e hc
        go_enter Try.func26, Try.ntmps26
        go_wp2_with (first | (go_at_call 24; refine (HW.out _).mono ?_; rintro e w' ⟨rfl, rfl⟩) | (go_at_call 64; refine HC.out.mono ?_; rintro e w' ⟨rfl, rfl⟩))
        go_ret2
        exact ⟨rfl, rfl⟩
  · skip
    by_cases g1 : n < 2
    · have e : ∀ x y : Value, (if n < 2 then x else y) = x := fun x y => by rw [if_pos g1]
      have hc := small16_any a c n l w ha hn hm
      rw [e] at hc ⊢
      have HC := Lib.hid hc
      clear e hc
      go_enter Try.func26, Try.ntmps26
      go_wp2_with (first | (go_at_call 24; refine (HW.out _).mono ?_; rintro e w' ⟨rfl, rfl⟩) | (go_at_call 65; refine HC.out.mono ?_; rintro e w' ⟨rfl, rfl⟩))
      go_ret2
      exact ⟨rfl, rfl⟩
    · by_cases g2 : 2 < n
      · have e : ∀ x y z : Value, (if n < 2 then x else if 2 < n then y else z) = y := fun x y z => by rw [if_neg g1, if_pos g2]
        have hc := small16_any a c n l w ha hn hm
        rw [e] at hc ⊢
        have HC := Lib.hid hc
        clear e hc
        go_enter Try.func26, Try.ntmps26
        go_wp2_with (first | (go_at_call 24; refine (HW.out _).mono ?_; rintro e w' ⟨rfl, rfl⟩) | (go_at_call 65; refine HC.out.mono ?_; rintro e w' ⟨rfl, rfl⟩))
        go_ret2
        exact ⟨rfl, rfl⟩
      · have e : ∀ x y z : Value, (if n < 2 then x else if 2 < n then y else z) = z := fun x y z => by rw [if_neg g1, if_neg g2]
        have hc := small16_any a c n l w ha hn hm
        rw [e] at hc ⊢
        have HC := Lib.hid hc
        have hlt : smallL l < 65536 := by have := smallL_lt 2 l (by omega); simpa using this
        clear e hc
        go_enter Try.func26, Try.ntmps26
        go_wp2_with (first | (go_at_call 24; refine (HW.out _).mono ?_; rintro e w' ⟨rfl, rfl⟩) | (go_at_call 65; refine HC.out.mono ?_; rintro e w' ⟨rfl, rfl⟩))
        go_ret2
        exact ⟨rfl, rfl⟩
  · skip
    by_cases g1 : n < 4
    · have e : ∀ x y : Value, (if n < 4 then x else y) = x := fun x y => by rw [if_pos g1]
      have hc := small32_any a c n l w ha hn hm
      rw [e] at hc ⊢
      have HC := Lib.hid hc
      clear e hc
      go_enter Try.func26, Try.ntmps26
      go_wp2_with (first | (go_at_call 24; refine (HW.out _).mono ?_; rintro e w' ⟨rfl, rfl⟩) | (go_at_call 51; refine HC.out.mono ?_; rintro e w' ⟨rfl, rfl⟩))
      go_ret2
      exact ⟨rfl, rfl⟩
    · by_cases g2 : 4 < n
      · have e : ∀ x y z : Value, (if n < 4 then x else if 4 < n then y else z) = y := fun x y z => by rw [if_neg g1, if_pos g2]
        have hc := small32_any a c n l w ha hn hm
        rw [e] at hc ⊢
        have HC := Lib.hid hc
        clear e hc
        go_enter Try.func26, Try.ntmps26
        go_wp2_with (first | (go_at_call 24; refine (HW.out _).mono ?_; rintro e w' ⟨rfl, rfl⟩) | (go_at_call 51; refine HC.out.mono ?_; rintro e w' ⟨rfl, rfl⟩))
        go_ret2
        exact ⟨rfl, rfl⟩
      · have e : ∀ x y z : Value, (if n < 4 then x else if 4 < n then y else z) = z := fun x y z => by rw [if_neg g1, if_neg g2]
        have hc := small32_any a c n l w ha hn hm
        rw [e] at hc ⊢
        have HC := Lib.hid hc
        have hlt : smallL l < 4294967296 := by have := smallL_lt 4 l (by omega); simpa using this
        clear e hc
        go_enter Try.func26, Try.ntmps26
        go_wp2_with (first | (go_at_call 24; refine (HW.out _).mono ?_; rintro e w' ⟨rfl, rfl⟩) | (go_at_call 51; refine HC.out.mono ?_; rintro e w' ⟨rfl, rfl⟩))
        go_ret2
        exact ⟨rfl, rfl⟩
  · clear h1 h2 h4
    by_cases g1 : n < 8
    · have e : ∀ x y : Value, (if n < 8 then x else y) = x := fun x y => by rw [if_pos g1]
      have hc := small64_any a c n l w ha hn hm
      rw [e] at hc ⊢
      have HC := Lib.hid hc
      clear e hc
      go_enter Try.func26, Try.ntmps26
      go_wp2_with (first | (go_at_call 24; refine (HW.out _).mono ?_; rintro e w' ⟨rfl, rfl⟩) | (go_at_call 66; refine HC.out.mono ?_; rintro e w' ⟨rfl, rfl⟩))
      go_ret2
      exact ⟨rfl, rfl⟩
    · by_cases g2 : 8 < n
      · have e : ∀ x y z : Value, (if n < 8 then x else if 8 < n then y else z) = y := fun x y z => by rw [if_neg g1, if_pos g2]
        have hc := small64_any a c n l w ha hn hm
        rw [e] at hc ⊢
        have HC := Lib.hid hc
        clear e hc
        go_enter Try.func26, Try.ntmps26
        go_wp2_with (first | (go_at_call 24; refine (HW.out _).mono ?_; rintro e w' ⟨rfl, rfl⟩) | (go_at_call 66; refine HC.out.mono ?_; rintro e w' ⟨rfl, rfl⟩))
        go_ret2
        exact ⟨rfl, rfl⟩
      · have e : ∀ x y z : Value, (if n < 8 then x else if 8 < n then y else z) = z := fun x y z => by rw [if_neg g1, if_neg g2]
        have hc := small64_any a c n l w ha hn hm
        rw [e] at hc ⊢
        have HC := Lib.hid hc
        have hlt : smallL l < 18446744073709551616 := by have := smallL_lt 8 l (by omega); simpa using this
        clear e hc
        go_enter Try.func26, Try.ntmps26
        go_wp2_with (first | (go_at_call 24; refine (HW.out _).mono ?_; rintro e w' ⟨rfl, rfl⟩) | (go_at_call 66; refine HC.out.mono ?_; rintro e w' ⟨rfl, rfl⟩))
        go_ret2
        exact ⟨rfl, rfl⟩

/-- what Small answers: the number, and the error's number -/
def smV (n k : Nat) (l : List UInt8) : Nat := if n = k then smallL l else 0
def smE (n k : Nat) : Nat := if n < k then 10 else if k < n then 11 else 0
theorem sm_eq (n k : Nat) (l : List UInt8) : (if n < k then Value.tuple #[.int .u64 0, .int .i64 10] else if k < n then .tuple #[.int .u64 0, .int .i64 11] else .tuple #[.int .u64 (smallL l), .int .i64 0]) = .tuple #[.int .u64 (smV n k l), .int .i64 (smE n k)] := by
  unfold smV smE
  by_cases h1 : n < k
  · rw [if_pos h1, if_pos h1, if_neg (by omega)]; rfl
  · by_cases h2 : k < n
    · rw [if_neg h1, if_neg h1, if_pos h2, if_pos h2, if_neg (by omega)]; rfl
    · rw [if_neg h1, if_neg h1, if_neg h2, if_neg h2, if_pos (by omega)]; rfl
theorem lawSmall_v (a : Option Addr) (c n : Nat) (l : List UInt8) (v : Int) (k : Nat) (w : World) (ha : BLies w a l) (hn : l.length = n) (hm : n ≤ maxLen) (h : Wd v k) :
    Calls Try.prog 26 #[.slice a n c, .int .i64 v] w fun e w' => e = .returned (.tuple #[.int .u64 (smV n k l), .int .i64 (smE n k)]) ∧ w = w' := by
  rw [← sm_eq]; exact lawSmall_any a c n l v k w ha hn hm h
theorem refSmall_v (a : Option Addr) (c n k : Nat) (l : List UInt8) (w : World) (ha : BLies w a l) (hn : l.length = n) (hm : n ≤ maxLen) (hk : k ≤ 8) :
    Calls Try.prog 27 #[.slice a n c, .int .i64 k] w fun e w' => e = .returned (.tuple #[.int .u64 (smV n k l), .int .i64 (smE n k)]) ∧ w = w' := by
  rw [← sm_eq]; exact refSmall_any a c n k l w ha hn hm hk

end Go.Proofs.Ythemlaibjchjpaa
