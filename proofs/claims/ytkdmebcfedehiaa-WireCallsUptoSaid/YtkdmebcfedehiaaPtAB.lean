/- Helpers and contracts of the proofs over this seat: WireMathQ, Small32, WireLive, Taker, Fields, ReqMath, WireRep, AppZeros, Kept, Apart, Lists, Concat, RegM. Each states what a function of the program answers, or is plain Lean; its conditions stand in each statement. -/
import Derived.Lib.AppendZerosOnto
import Derived.Test.YtkdmebcfedehiaaPtAA
set_option linter.unusedVariables false
/- Plain Lean: requests as bytes, and back. -/
namespace Go.Proofs.Ytkdmebcfedehiaa
open Go.RowKit


/-- a request -/
structure Rq where
  kind : Nat
  ix : List UInt8
  number : Int
  pos : Int
  len : Int
  who : Nat
  till : Int
  bytes : List UInt8
def ix0 : List UInt8 := List.replicate 16 0
def noRq : Rq := ⟨0, ix0, 0, 0, 0, 0, 0, []⟩
/-- may a request be? -/
def MayQ (q : Rq) : Prop :=
  (q.kind = 1 ∧ q.number = 0 ∧ q.pos = 0 ∧ q.len = 0 ∧ q.who = 0 ∧ q.till = 0 ∧ q.bytes.length = 0) ∨
  (q.kind = 2 ∧ q.pos = 0 ∧ q.len = 0 ∧ 0 ≤ q.number ∧ q.number < 255 ∧ 0 ≤ q.till ∧ q.till ≤ 1099511627776 ∧ q.bytes.length ≤ 33554432) ∨
  (q.kind = 3 ∧ 0 ≤ q.number ∧ q.number < 255 ∧ 0 ≤ q.pos ∧ q.pos ≤ 33554432 ∧ 1 ≤ q.len ∧ q.len ≤ 131072 ∧ q.who = 0 ∧ q.till = 0 ∧ q.bytes.length = 0) ∨
  (q.kind = 4 ∧ q.number = 0 ∧ q.pos = 0 ∧ q.len = 0 ∧ 0 ≤ q.till ∧ q.till ≤ 1099511627776 ∧ q.bytes.length = 0) ∨
  (q.kind = 5 ∧ q.number = 0 ∧ q.pos = 0 ∧ q.len = 0 ∧ q.till = 0 ∧ q.bytes.length = 0)
instance (q : Rq) : Decidable (MayQ q) := by unfold MayQ; infer_instance
def encQ (q : Rq) : List UInt8 :=
  UInt8.ofNat q.kind :: (q.ix ++ (
    if q.kind = 2 then numB q.number :: (bigL 4 q.who ++ (bigL 8 q.till.toNat ++ (bigL 4 q.bytes.length ++ q.bytes)))
    else if q.kind = 3 then numB q.number :: (bigL 4 q.pos.toNat ++ bigL 4 q.len.toNat)
    else if q.kind = 4 then bigL 4 q.who ++ bigL 8 q.till.toNat
    else if q.kind = 5 then bigL 4 q.who else []))
/-- how many bytes a request of a kind has ahead of Bytes -/
def headQ (k : Nat) : Nat := if k = 1 then 17 else if k = 2 then 34 else if k = 3 then 26 else if k = 4 then 29 else if k = 5 then 21 else 0
def seg (b : List UInt8) (p n : Nat) : List UInt8 := (b.drop p).take n
def endQ (b : List UInt8) (hd n : Nat) (q : Rq) : Except Nat Rq := if b.length ≠ hd + n then .error (min b.length (hd + n)) else .ok { q with bytes := b.drop hd }
def decQ (b : List UInt8) : Except Nat Rq :=
  if b = [] ∨ headQ (b.getD 0 0).toNat = 0 then .error 0
  else if b.length < headQ (b.getD 0 0).toNat then .error b.length
  else if (b.getD 0 0).toNat = 1 then endQ b 17 0 ⟨1, seg b 1 16, 0, 0, 0, 0, 0, []⟩
  else if (b.getD 0 0).toNat = 2 then
    if b.getD 17 0 = 255 then .error 17
    else if 1099511627776 < getN b 22 8 then .error 22
    else if 33554432 < getN b 30 4 then .error 30
    else endQ b 34 (getN b 30 4) ⟨2, seg b 1 16, byN (b.getD 17 0), 0, 0, getN b 18 4, (getN b 22 8 : Nat), []⟩
  else if (b.getD 0 0).toNat = 3 then
    if b.getD 17 0 = 255 then .error 17
    else if 33554432 < getN b 18 4 then .error 18
    else if getN b 22 4 < 1 ∨ 131072 < getN b 22 4 then .error 22
    else endQ b 26 0 ⟨3, seg b 1 16, byN (b.getD 17 0), (getN b 18 4 : Nat), (getN b 22 4 : Nat), 0, 0, []⟩
  else if (b.getD 0 0).toNat = 4 then
    if 1099511627776 < getN b 21 8 then .error 21
    else endQ b 29 0 ⟨4, seg b 1 16, 0, 0, 0, getN b 17 4, (getN b 21 8 : Nat), []⟩
  else endQ b 21 0 ⟨5, seg b 1 16, 0, 0, 0, getN b 17 4, 0, []⟩

theorem getN_seg (b : List UInt8) (p n : Nat) : getN b p n = smallL (seg b p n) := rfl
theorem seg_join {b : List UInt8} {p n q : Nat} (hq : q = p + n) : seg b p n ++ b.drop q = b.drop p := by
  unfold seg
  rw [hq, ← List.drop_drop, List.take_append_drop]
theorem seg_len {b : List UInt8} {p n : Nat} (h : p + n ≤ b.length) : (seg b p n).length = n := by
  unfold seg
  rw [List.length_take, List.length_drop]
  omega
theorem big_get {b : List UInt8} {p n : Nat} (h : p + n ≤ b.length) : bigL n (getN b p n) = seg b p n := by
  rw [getN_seg, big_small n _ (seg_len h)]
theorem getD_cons_drop {b : List UInt8} {p q : Nat} (hq : q = p + 1) (h : p < b.length) : b.getD p 0 :: b.drop q = b.drop p := by
  subst hq
  rw [List.drop_eq_getElem_cons h, List.getD_eq_getElem?_getD, List.getElem?_eq_getElem h]
  rfl
theorem getN_le {b : List UInt8} {p n : Nat} : getN b p n < 256 ^ n := by
  unfold getN
  have h := smallL_lt _ ((b.drop p).take n) rfl
  have h2 : 256 ^ ((b.drop p).take n).length ≤ 256 ^ n := Nat.pow_le_pow_right (by omega) (by rw [List.length_take]; omega)
  omega
theorem byN_255 {x : UInt8} (h : ¬ x = 255) : byN x < 255 := by
  unfold byN
  have h1 : x = 255 ↔ x.toNat = 255 := by rw [← UInt8.toNat_inj]; rfl
  have := x.toNat_lt
  have h2 : ¬ x.toNat = 255 := fun e => h (h1.2 e)
  omega
theorem endQ_ok {b : List UInt8} {hd n : Nat} {q : Rq} (h : b.length = hd + n) : endQ b hd n q = .ok { q with bytes := b.drop hd } := by
  unfold endQ
  rw [if_neg (by omega)]
theorem headQ_cases {k : Nat} (h : headQ k ≠ 0) : k = 1 ∨ k = 2 ∨ k = 3 ∨ k = 4 ∨ k = 5 := by
  unfold headQ at h
  repeat' split at h
  all_goals omega
theorem ix_drop {b : List UInt8} (h : 17 ≤ b.length) : b.getD 0 0 :: (seg b 1 16 ++ b.drop 17) = b := by
  rw [seg_join (show 17 = 1 + 16 from rfl), getD_cons_drop (show 1 = 0 + 1 from rfl) (by omega), List.drop_zero]
theorem endQ_inv {b : List UInt8} {hd n : Nat} {q r : Rq} (h : endQ b hd n q = .ok r) : b.length = hd + n ∧ r = { q with bytes := b.drop hd } := by
  unfold endQ at h
  by_cases hl : b.length ≠ hd + n
  · rw [if_pos hl] at h; cases h
  · rw [if_neg hl] at h
    injection h with h
    exact ⟨by omega, h.symm⟩
theorem byte_of {x : UInt8} {k : Nat} (h : x.toNat = k) : UInt8.ofNat k = x := by rw [← h, UInt8.ofNat_toNat]
/-- bytes that are taken are the request's -/
theorem encQ_dec (b : List UInt8) (q : Rq) (h : decQ b = .ok q) : MayQ q ∧ encQ q = b ∧ q.ix.length = 16 ∧ q.who < 4294967296 ∧ q.kind < 256 := by
  unfold decQ at h
  by_cases h0 : b = [] ∨ headQ (b.getD 0 0).toNat = 0
  · rw [if_pos h0] at h; cases h
  rw [if_neg h0] at h
  by_cases hs : b.length < headQ (b.getD 0 0).toNat
  · rw [if_pos hs] at h; cases h
  rw [if_neg hs] at h
  have hk := headQ_cases (fun e => h0 (.inr e))
  rcases hk with hk | hk | hk | hk | hk
  · rw [if_pos hk] at h
    have hd : headQ 1 = 17 := rfl
    rw [hk, hd] at hs
    obtain ⟨hl, rfl⟩ := endQ_inv h
    have hz : b.drop 17 = [] := List.drop_of_length_le (by omega)
    have hi := ix_drop (b := b) (by omega)
    refine ⟨.inl ⟨rfl, rfl, rfl, rfl, rfl, rfl, by show (b.drop 17).length = 0; rw [hz]; rfl⟩, ?_, seg_len (by omega), by show (0 : Nat) < 4294967296; omega, by show (1 : Nat) < 256; omega⟩
    show UInt8.ofNat 1 :: (seg b 1 16 ++ []) = b
    rw [byte_of hk, ← hz]
    exact hi
  · rw [if_neg (by omega), if_pos hk] at h
    have hd : headQ 2 = 34 := rfl
    rw [hk, hd] at hs
    by_cases h1 : b.getD 17 0 = 255
    · rw [if_pos h1] at h; cases h
    rw [if_neg h1] at h
    by_cases h2 : 1099511627776 < getN b 22 8
    · rw [if_pos h2] at h; cases h
    rw [if_neg h2] at h
    by_cases h3 : 33554432 < getN b 30 4
    · rw [if_pos h3] at h; cases h
    rw [if_neg h3] at h
    obtain ⟨hl, rfl⟩ := endQ_inv h
    have hi := ix_drop (b := b) (by omega)
    have hbl : (b.drop 34).length = getN b 30 4 := by rw [List.length_drop]; omega
    have hw := getN_le (b := b) (p := 18) (n := 4)
    refine ⟨.inr (.inl ⟨rfl, rfl, rfl, ?_, byN_255 h1, ?_, ?_, ?_⟩), ?_, seg_len (by omega), by show getN b 18 4 < _; omega, by show (2 : Nat) < 256; omega⟩
    · show 0 ≤ byN _; unfold byN; omega
    · show (0 : Int) ≤ (getN b 22 8 : Nat); omega
    · show ((getN b 22 8 : Nat) : Int) ≤ 1099511627776; omega
    · show (b.drop 34).length ≤ _; omega
    · show UInt8.ofNat 2 :: (seg b 1 16 ++ (numB (byN (b.getD 17 0)) :: (bigL 4 (getN b 18 4) ++ (bigL 8 (((getN b 22 8 : Nat) : Int).toNat) ++ (bigL 4 (b.drop 34).length ++ b.drop 34))))) = b
      rw [byte_of hk, numB_byN, Int.toNat_natCast, hbl, big_get (by omega), big_get (by omega), big_get (by omega), seg_join (show 34 = 30 + 4 from rfl), seg_join (show 30 = 22 + 8 from rfl), seg_join (show 22 = 18 + 4 from rfl), getD_cons_drop (show 18 = 17 + 1 from rfl) (by omega)]
      exact hi
  · rw [if_neg (by omega), if_neg (by omega), if_pos hk] at h
    have hd : headQ 3 = 26 := rfl
    rw [hk, hd] at hs
    by_cases h1 : b.getD 17 0 = 255
    · rw [if_pos h1] at h; cases h
    rw [if_neg h1] at h
    by_cases h2 : 33554432 < getN b 18 4
    · rw [if_pos h2] at h; cases h
    rw [if_neg h2] at h
    by_cases h3 : getN b 22 4 < 1 ∨ 131072 < getN b 22 4
    · rw [if_pos h3] at h; cases h
    rw [if_neg h3] at h
    obtain ⟨hl, rfl⟩ := endQ_inv h
    have hi := ix_drop (b := b) (by omega)
    have hz : b.drop 26 = [] := List.drop_of_length_le (by omega)
    refine ⟨.inr (.inr (.inl ⟨rfl, ?_, byN_255 h1, ?_, ?_, ?_, ?_, rfl, rfl, ?_⟩)), ?_, seg_len (by omega), by show (0 : Nat) < _; omega, by show (3 : Nat) < 256; omega⟩
    · show 0 ≤ byN _; unfold byN; omega
    · show (0 : Int) ≤ (getN b 18 4 : Nat); omega
    · show ((getN b 18 4 : Nat) : Int) ≤ _; omega
    · show (1 : Int) ≤ (getN b 22 4 : Nat); omega
    · show ((getN b 22 4 : Nat) : Int) ≤ _; omega
    · show (b.drop 26).length = 0; rw [hz]; rfl
    · show UInt8.ofNat 3 :: (seg b 1 16 ++ (numB (byN (b.getD 17 0)) :: (bigL 4 (((getN b 18 4 : Nat) : Int).toNat) ++ bigL 4 (((getN b 22 4 : Nat) : Int).toNat)))) = b
      rw [byte_of hk, numB_byN, Int.toNat_natCast, Int.toNat_natCast, big_get (by omega), big_get (by omega), ← List.append_nil (seg b 22 4), ← hz, seg_join (show 26 = 22 + 4 from rfl), seg_join (show 22 = 18 + 4 from rfl), getD_cons_drop (show 18 = 17 + 1 from rfl) (by omega)]
      exact hi
  · rw [if_neg (by omega), if_neg (by omega), if_neg (by omega), if_pos hk] at h
    have hd : headQ 4 = 29 := rfl
    rw [hk, hd] at hs
    by_cases h1 : 1099511627776 < getN b 21 8
    · rw [if_pos h1] at h; cases h
    rw [if_neg h1] at h
    obtain ⟨hl, rfl⟩ := endQ_inv h
    have hi := ix_drop (b := b) (by omega)
    have hz : b.drop 29 = [] := List.drop_of_length_le (by omega)
    have hw := getN_le (b := b) (p := 17) (n := 4)
    refine ⟨.inr (.inr (.inr (.inl ⟨rfl, rfl, rfl, rfl, ?_, ?_, ?_⟩))), ?_, seg_len (by omega), by show getN b 17 4 < _; omega, by show (4 : Nat) < 256; omega⟩
    · show (0 : Int) ≤ (getN b 21 8 : Nat); omega
    · show ((getN b 21 8 : Nat) : Int) ≤ _; omega
    · show (b.drop 29).length = 0; rw [hz]; rfl
    · show UInt8.ofNat 4 :: (seg b 1 16 ++ (bigL 4 (getN b 17 4) ++ bigL 8 (((getN b 21 8 : Nat) : Int).toNat))) = b
      rw [byte_of hk, Int.toNat_natCast, big_get (by omega), big_get (by omega), ← List.append_nil (seg b 21 8), ← hz, seg_join (show 29 = 21 + 8 from rfl), seg_join (show 21 = 17 + 4 from rfl)]
      exact hi
  · rw [if_neg (by omega), if_neg (by omega), if_neg (by omega), if_neg (by omega)] at h
    have hd : headQ 5 = 21 := rfl
    rw [hk, hd] at hs
    obtain ⟨hl, rfl⟩ := endQ_inv h
    have hi := ix_drop (b := b) (by omega)
    have hz : b.drop 21 = [] := List.drop_of_length_le (by omega)
    have hw := getN_le (b := b) (p := 17) (n := 4)
    refine ⟨.inr (.inr (.inr (.inr ⟨rfl, rfl, rfl, rfl, rfl, ?_⟩))), ?_, seg_len (by omega), by show getN b 17 4 < _; omega, by show (5 : Nat) < 256; omega⟩
    · show (b.drop 21).length = 0; rw [hz]; rfl
    · show UInt8.ofNat 5 :: (seg b 1 16 ++ bigL 4 (getN b 17 4)) = b
      rw [byte_of hk, big_get (by omega), ← List.append_nil (seg b 17 4), ← hz, seg_join (show 21 = 17 + 4 from rfl)]
      exact hi

theorem hq5 : headQ 5 = 21 := rfl
/-- how many bytes a request has -/
def totQ (b : List UInt8) : Nat := if (b.getD 0 0).toNat = 2 then 34 + getN b 30 4 else headQ (b.getD 0 0).toNat
theorem headQ_lt (k : Nat) : headQ k ≠ 0 → 17 ≤ headQ k ∧ headQ k ≤ 34 := by
  intro h
  rcases headQ_cases h with rfl | rfl | rfl | rfl | rfl <;> decide
end Go.Proofs.Ytkdmebcfedehiaa
/- octet.Small of four bytes (with the other widths). -/
namespace Go.Proofs.Ytkdmebcfedehiaa
end Go.Proofs.Ytkdmebcfedehiaa
/- wire: a reply of two numbers as bytes, a reply of one byte out of its bytes: what 'lives' asks. -/
namespace Go.Proofs.Ytkdmebcfedehiaa
open Go.RowKit

set_option maxRecDepth 100000 in
set_option maxHeartbeats 1000000 in
theorem number_n (x : Int) (w : World) : Calls Try.prog 26 #[.int .i64 x] w fun e w' => e = .returned (.bool (decide (0 ≤ x) && decide (x < 255))) ∧ w = w' := by
  by_cases h : 0 ≤ x
  · have h1 : decide (0 ≤ x) = true := by simpa using h
    rw [h1, Bool.true_and]
    go_enter Try.func26, Try.ntmps26
    go_wp2
    go_ret
    exact ⟨rfl, rfl⟩
  · have h1 : decide (0 ≤ x) = false := by simpa using h
    rw [h1, Bool.false_and]
    go_enter Try.func26, Try.ntmps26
    go_wp2
    go_ret
    exact ⟨rfl, rfl⟩

set_option maxRecDepth 100000 in
set_option maxHeartbeats 1000000 in
theorem mayTell_a (g : Nat) (w : World) (h : Row w g 3 #[.int .i64 0, .int .i64 3]) :
    Calls Try.prog 22 #[.agg #[.int .u8 1, .slice (some ⟨g, 0, none⟩) 2 2, .slice none 0 0]] w fun e w' => e = .returned (.bool true) ∧ w.grownBy w' none := by
  have H := Lib.hid h
  clear h
  go_enter Try.func22, Try.ntmps22
  go_wp2_with (refine wpList_boxed rfl rfl #[.int .u8 1, .slice (some ⟨g, 0, none⟩) 2 2, .slice none 0 0] rfl ?_; intro wb hsb hgb hrb; have c0 := Row.cell hrb 0; have c1 := Row.cell hrb 1; have c2 := Row.cell hrb 2; have d0 := Row.cell (H.out.grown hgb) 0; have d1 := Row.cell (H.out.grown hgb) 1; simp at c0 c1 c2 d0 d1; have HG := Lib.hid hgb; clear hsb hgb hrb)
  go_loopw [32] (fun vi wr => ∃ k : Nat, k ≤ 2 ∧ vi = .int .i64 k ∧ wr = wb) (fun vi _ => 2 - (intOf vi).toNat)
  case atStart => exact ⟨0, by omega, rfl, rfl⟩
  case round =>
    obtain ⟨k, hk, rfl, rfl⟩ := hrel
    rcases (by omega : k = 0 ∨ k = 1 ∨ k = 2) with rfl | rfl | rfl
    · rw [show ((0 : Nat) : Int) = 0 from rfl]
      go_wp2_with fail
      refine (number_n 0 _).mono ?_
      rintro e w' ⟨rfl, rfl⟩
      go_wp2_with fail
      go_roundw
      case rel => exact ⟨1, by omega, by first | rfl | go_num, by first | rfl | trivial⟩
      case measure => simp [intOf]
    · rw [show ((1 : Nat) : Int) = 1 from rfl]
      go_wp2_with fail
      refine (number_n 3 _).mono ?_
      rintro e w' ⟨rfl, rfl⟩
      go_wp2_with fail
      go_roundw
      case rel => exact ⟨2, by omega, by first | rfl | go_num, by first | rfl | trivial⟩
      case measure => simp [intOf]
    · rw [show ((2 : Nat) : Int) = 2 from rfl]
      go_wp2_with fail
      go_ret
      exact ⟨rfl, HG.out⟩

set_option maxRecDepth 100000 in
set_option maxHeartbeats 1000000 in
theorem putReply_a (g : Nat) (w : World) (h : Row w g 3 #[.int .i64 0, .int .i64 3]) :
    Calls Try.prog 9 #[.agg #[.int .u8 1, .slice (some ⟨g, 0, none⟩) 2 2, .slice none 0 0]] w fun e w' => ∃ a' c', e = .returned (.tuple #[.slice a' 4 c', .int .i64 0]) ∧ BOwn w' w.heap.size a' 4 c' [1, 2, 0, 3] ∧ w.grownBy w' none := by
  have H := Lib.hid h
  clear h
  go_enter Try.func9, Try.ntmps9
  go_wp2_with (first | (refine wpList_boxed rfl rfl #[.int .u8 1, .slice (some ⟨g, 0, none⟩) 2 2, .slice none 0 0] rfl ?_; intro wb hsb hgb hrb; have HB := Lib.hid hrb; have HG := Lib.hid hgb; clear hsb hgb hrb) | (refine wpList_load_row rfl 26 _ rfl w.heap.size rfl 26 #[.int .u8 1, .slice (some ⟨g, 0, none⟩) 2 2, .slice none 0 0] (0, 0) _ HB.out Try.underlying26 rfl (by kernel_rfl) ?_))
  refine (mayTell_a g wb (H.out.grown HG.out)).mono ?_
  rintro e w1 ⟨rfl, hg1⟩
  have HG1 := Lib.hid (grownBy_trans HG.out hg1)
  have HB1 := Lib.hid (HB.out.grown hg1)
  have c0 := Row.cell HB1.out 0
  simp at c0
  have hlt : w.heap.size < w1.heap.size := HB1.out.lt
  have hgl : g < w.heap.size := H.out.lt
  clear hg1
  go_upto_region 4 with fail
  obtain ⟨W2, hW2⟩ : ∃ W2, W2 = w1.alloc (.cells #[.int .u8 1] 5) := ⟨_, rfl⟩
  rw [← hW2]
  have hg2 : w1.grownBy W2 none := hW2 ▸ World.grownBy_alloc _ _ none
  have hr2 : BRow W2 w1.heap.size 5 [1] := by rw [hW2]; exact heap_alloc_new w1 _
  have ho2 : Own W2 w.heap.size 5 1 (some ⟨w1.heap.size, 0, none⟩) 1 1 (([1] : List UInt8).map bval) := BRow.own hr2 (by omega) 1 rfl (by decide)
  have HO2 := Lib.hid ho2
  have HG2 := Lib.hid (grownBy_trans HG1.out hg2)
  have HB2 := Lib.hid (HB1.out.grown hg2)
  clear c0 hW2 hg2 hr2 ho2
  have c0 := Row.cell HB2.out 0
  have c1 := Row.cell HB2.out 1
  simp at c0 c1
  have hwv : IntKind.u8.wrap 2 = 2 := rfl
  go_upto_region 7 with (at_builtin; refine wpList_push elB rfl (.tmp 17) (.tmp 22) rfl rfl HO2.out (.int .u8 2) rfl rfl (by decide) (by decide) HG2.out.size ?_; intro g3 cap3 w3 hown3 hgr3; have HO3 := Lib.hid hown3; have HG3 := Lib.hid (hgr3.grew.grown HO2.out HG2.out (Nat.le_refl _)); have HB3 := Lib.hid (Row.ch HB2.out hgr3.ch (fun h => by have := h.2; injection this with this; injection this with this; omega)); clear hown3 hgr3)
  clear c0 c1
  have c1 := Row.cell HB3.out 1
  simp at c1
  have HO3' : Hid (Own w3 w.heap.size 5 1 (some ⟨g3, 0, none⟩) 2 cap3 (([1, 2] : List UInt8).map bval)) := HO3
  clear HO3
  go_wp2_with fail
  go_loopw [27, 4] (fun vi vo wr => ∃ (k : Nat) (a : Option Addr) (m c : Nat), k ≤ 2 ∧ m = 2 + k ∧ vi = .int .i64 k ∧ vo = .slice a m c ∧ Own wr w.heap.size 5 1 a m c ((([1, 2] : List UInt8) ++ ([0, 3] : List UInt8).take k).map bval) ∧ w.grownBy wr none) (fun vi _ _ => 2 - (intOf vi).toNat)
  case atStart => exact ⟨0, _, _, _, by omega, rfl, rfl, rfl, HO3'.out, HG3.out⟩
  case round =>
    obtain ⟨k, a, m, c, hk, hm, rfl, rfl, ho, hg⟩ := hrel
    have HO := Lib.hid ho
    have HG4 := Lib.hid hg
    have d0 := Row.cell (H.out.grown hg) 0
    have d1 := Row.cell (H.out.grown hg) 1
    simp at d0 d1
    clear ho hg
    rcases (by omega : k = 0 ∨ k = 1 ∨ k = 2) with rfl | rfl | rfl
    · subst hm
      rw [show ((0 : Nat) : Int) = 0 from rfl]
      have hwv0 : IntKind.u8.wrap 0 = 0 := rfl
      go_wp2_with (at_builtin; refine wpList_push elB rfl (.tmp 31) (.tmp 34) rfl rfl HO.out (.int .u8 0) rfl rfl (by decide) (by decide) HG4.out.size ?_; intro g5 cap5 w5 hown5 hgr5; have HO5 := Lib.hid hown5; have HG5 := Lib.hid (hgr5.grew.grown HO.out HG4.out (Nat.le_refl _)); clear hown5 hgr5)
      go_roundw
      case rel => exact ⟨1, _, _, _, by omega, rfl, by first | rfl | go_num, rfl, HO5.out, HG5.out⟩
      case measure => simp [intOf]
    · subst hm
      rw [show ((1 : Nat) : Int) = 1 from rfl]
      have hwv3 : IntKind.u8.wrap 3 = 3 := rfl
      go_wp2_with (at_builtin; refine wpList_push elB rfl (.tmp 31) (.tmp 34) rfl rfl HO.out (.int .u8 3) rfl rfl (by decide) (by decide) HG4.out.size ?_; intro g5 cap5 w5 hown5 hgr5; have HO5 := Lib.hid hown5; have HG5 := Lib.hid (hgr5.grew.grown HO.out HG4.out (Nat.le_refl _)); clear hown5 hgr5)
      go_roundw
      case rel => exact ⟨2, _, _, _, by omega, rfl, by first | rfl | go_num, rfl, HO5.out, HG5.out⟩
      case measure => simp [intOf]
    · subst hm
      rw [show ((2 : Nat) : Int) = 2 from rfl]
      go_wp2_with fail
      go_ret2
      exact ⟨_, _, rfl, HO.out, HG4.out⟩

theorem results_ctt {P : Program} {fn : Func} {p q r : Tmp} {ty : TypeId} (h : fn.results = #[.cell p ty, .tmp q, .tmp r]) (tmps : Array Value) (w : World) (g : Nat) (t : TypeId) (cs : Array Value) (fr : Nat × Nat) (d : TypeDesc) (v u : Value)
    (hp : tmps.getD p undef = .pointer (some ⟨g, 0, none⟩)) (hq : tmps.getD q undef = v) (hr : tmps.getD r undef = u) (hg : w.heap[g]? = some (.cells cs t fr))
    (hu : P.underlying ty = some d) (hd : (match d with | .struct _ | .array _ _ => true | _ => false) = true) (hi : (P.info? ty).map (·.size) = some cs.size) :
    (results fn tmps).run P w = .ok (.tuple #[.agg cs, v, u]) w := by
  have hp' : tmps[p]?.getD undef = .pointer (some ⟨g, 0, none⟩) := by simpa using hp
  have hq' : tmps[q]?.getD undef = v := by simpa using hq
  have hr' : tmps[r]?.getD undef = u := by simpa using hr
  simp [results, h, hp', hq', hr', asAddr, run_loadVar_row w g t ty cs fr d hg hu hd hi]

theorem small_1 : smallL [0, 0, 0, 1] = 1 := by decide

set_option maxRecDepth 100000 in
set_option maxHeartbeats 4000000 in
theorem reply_a (g : Nat) (w : World) (h : BRow w g 5 [5, 0, 0, 0, 1, 170]) :
    Calls Try.prog 10 #[.slice (some ⟨g, 0, none⟩) 6 6] w fun e w' => ∃ a' c', e = .returned (.tuple #[.agg #[.int .u8 5, .slice none 0 0, .slice a' 1 c'], .int .i64 0, .int .i64 0]) ∧ BOwn w' w.heap.size a' 1 c' [170] ∧ w.grownBy w' none := by
  obtain ⟨ir, hir, hirz, hirs, _⟩ := info_parts (show (Try.prog.info? 26).map (fun i => (i.zero, i.size, i.bytes)) = some (some (.agg #[.int .u8 0, .slice none 0 0, .slice none 0 0]), 3, 56) by kernel_rfl)
  have hgl : g < w.heap.size := h.lt
  have hsm := small32_any (some ⟨g, 1, none⟩) 5 4 [0, 0, 0, 1]
  have hcl := clone_n (some ⟨g, 5, none⟩) 1 1 [170]
  have H := Lib.hid h
  clear h
  have b0 : ∀ W, w.grownBy W none → W.cell? ⟨g, 0, none⟩ = some (.int .u8 5) := fun W hg => by
    have := (H.out.grown hg).cell 0 (by decide); simpa using this
  have bl : ∀ W, w.grownBy W none → BLies W (some ⟨g, 1, none⟩) [0, 0, 0, 1] := fun W hg k hk => by
    have h1 := (H.out.grown hg).cell (k + 1) (by simp at hk ⊢; omega)
    refine ⟨g, 1, rfl, ?_⟩
    rw [Nat.add_comm, h1]
    match k, hk with
    | 0, _ => rfl
    | 1, _ => rfl
    | 2, _ => rfl
    | 3, _ => rfl
    | k + 4, hk => simp at hk; omega
  have bt : ∀ W, w.grownBy W none → BLies W (some ⟨g, 5, none⟩) [170] := fun W hg k hk => by
    have h1 := (H.out.grown hg).cell (k + 5) (by simp at hk ⊢; omega)
    refine ⟨g, 5, rfl, ?_⟩
    rw [Nat.add_comm, h1]
    match k, hk with
    | 0, _ => rfl
    | k + 1, hk => simp at hk
  have B0 := Lib.hid b0
  have hsm2 : ∀ W, w.grownBy W none → Calls Try.prog 27 #[.slice (some ⟨g, 1, none⟩) 4 5] W fun e w' => e = .returned (.tuple #[.int .u32 1, .int .i64 0]) ∧ W = w' := fun W hg => by
    have h := hsm W (bl W hg) rfl (by decide)
    rw [if_neg (by omega), if_neg (by omega), small_1] at h
    exact h
  have HSM := Lib.hid hsm2
  have HCL := Lib.hid (fun W hg => hcl W (bt W hg) rfl (by omega))
  clear b0 bl bt hsm hsm2 hcl
  go_enter Try.func10, Try.ntmps10
  go_upto_region 4 with (refine wpList_made rfl rfl hir hirz ?_; intro w1 hs1 hg1 hr1; have HS1 := Lib.hid hs1; have HG1 := Lib.hid hg1; have HR1 := Lib.hid (show Row w1 w.heap.size 26 #[.int .u8 0, .slice none 0 0, .slice none 0 0] from hr1); clear hs1 hg1 hr1)
  have c0 := B0.out w1 HG1.out
  go_upto_region 24 with (refine wpList_fresh rfl rfl rfl rfl rfl hir hirz (by rw [hirs]; rfl) #[.int .u8 5, .slice none 0 0, .slice none 0 0] rfl rfl rfl (by simp [Value.oneCell']) ?_; intro w2 hs2 hg2 hr2; have HG2 := Lib.hid (grownBy_trans HG1.out hg2); have HR2 := Lib.hid hr2; have HR1' := Lib.hid (HR1.out.grown hg2); have d0 := Row.cell hr2 0; simp at d0; clear hs2 hg2 hr2)
  go_wp2_with fail
  refine (HSM.out w2 HG2.out).mono ?_
  rintro e w' ⟨rfl, rfl⟩
  go_wp2_with fail
  refine (HCL.out w2 HG2.out).mono ?_
  rintro e w3 ⟨a', c', rfl, hown3, hg3⟩
  have hs1 := HS1.out
  have hz2 := HG2.out.size
  have hb2 := HR2.out.lt
  have HO3 := Lib.hid hown3
  have HG3 := Lib.hid (grownBy_trans HG2.out hg3)
  have HR3 := Lib.hid (HR2.out.grown hg3)
  have HT3 := Lib.hid (HR1'.out.grown hg3)
  have e2 := Row.cell HR3.out 2
  have f2 := Row.frozen HR3.out 2
  simp at e2
  obtain ⟨bo, hbo⟩ : ∃ bo, bo = w1.heap.size := ⟨_, rfl⟩
  have hbl := HR3.out.lt
  rw [← hbo] at HR3 e2 f2 hbl hb2 ⊢
  have hbw : w.heap.size < bo := by omega
  clear hbo
  clear hown3 hg3 d0 c0 hs1 hz2
  go_upto_region 32 with fail
  obtain ⟨W4, hW4⟩ : ∃ W4, W4 = w3.setCell ⟨bo, 2, none⟩ (.slice a' 1 c') := ⟨_, rfl⟩
  rw [← hW4]
  have hg4 : w3.grownBy W4 (some bo) := hW4 ▸ grownBy_setCell _ _ _ _
  have HR4 := Lib.hid (show Row W4 bo 26 #[.int .u8 5, .slice none 0 0, .slice a' 1 c'] from hW4 ▸ Row.setc HR3.out 2 (.slice a' 1 c'))
  have HT4 := Lib.hid (HT3.out.grownNe hg4 (by omega))
  have HG4 := Lib.hid (grownBy_old HG3.out hg4 (by omega))
  have ho4 : Own W4 w2.heap.size 5 1 a' 1 c' (([170] : List UInt8).map bval) := Own.ch HO3.out (Ch.ofSome (S := fun k => k = bo) hg4 rfl) (fun h0 g e h => by
    have := (Own.inn HO3.out (g := g) ⟨h0, e⟩).1
    omega)
  have HO4 := Lib.hid ho4
  clear ho4 hg4 hW4 e2 f2 HR3 HT3 HG3 HO3 HR2 HR1' HR1
  go_wp2_with (first | (refine wpList_load_row rfl 26 _ rfl bo rfl 26 #[.int .u8 5, .slice none 0 0, .slice a' 1 c'] (0, 0) _ HR4.out Try.underlying26 rfl (by kernel_rfl) ?_) | (refine wpList_putrow rfl rfl w.heap.size rfl #[.int .u8 5, .slice none 0 0, .slice a' 1 c'] rfl HT4.out (by kernel_rfl) rfl (by simp [Value.oneCell']) ?_; intro W5 hg5 hr5; have HG5 := Lib.hid hg5; have HR5 := Lib.hid hr5; clear hg5 hr5))
  have ho5 := Own.ch HO4.out (Ch.ofSome (S := fun k => k = w.heap.size) HG5.out rfl) (fun h0 g e h => by
    have := (Own.inn HO4.out (g := g) ⟨h0, e⟩).1
    omega)
  refine bodyPost_ret (results_ctt rfl _ _ w.heap.size 26 #[.int .u8 5, .slice none 0 0, .slice a' 1 c'] (0, 0) _ _ _ rfl rfl rfl HR5.out Try.underlying26 rfl (by kernel_rfl)) rfl ?_
  exact ⟨_, _, rfl, Own.mono ho5 HG2.out.size, grownBy_old HG4.out HG5.out (Nat.le_refl _)⟩


set_option maxRecDepth 100000 in
set_option maxHeartbeats 4000000 in
theorem lives_n (w : World) : Calls Try.prog 8 #[] w fun e w' => e = .returned (.bool true) ∧ w.grownBy w' none := by
  obtain ⟨ir, hir, hirz, hirs, _⟩ := info_parts (show (Try.prog.info? 26).map (fun i => (i.zero, i.size, i.bytes)) = some (some (.agg #[.int .u8 0, .slice none 0 0, .slice none 0 0]), 3, 56) by kernel_rfl)
  go_enter Try.func8, Try.ntmps8
  go_wp2_with fail
  have hp := putReply_a w.heap.size (w.alloc (.cells #[.int .i64 0, .int .i64 3] 3)) (heap_alloc_new w _)
  refine hp.mono ?_
  rintro e w1 ⟨a1, c1, rfl, ho1, hg1⟩
  have HO1 := Lib.hid ho1
  have HG1 := Lib.hid (grownBy_trans (World.grownBy_alloc w _ none) hg1)
  clear hp ho1 hg1
  go_wp2_with fail
  have hp := reply_a w1.heap.size (w1.alloc (.cells #[.int .u8 5, .int .u8 0, .int .u8 0, .int .u8 0, .int .u8 1, .int .u8 170] 5)) (heap_alloc_new w1 _)
  refine hp.mono ?_
  rintro e w2 ⟨a2, c2, rfl, ho2, hg2⟩
  have HO2 := Lib.hid ho2
  have hg12 := grownBy_trans (World.grownBy_alloc w1 _ none) hg2
  have HG2 := Lib.hid (grownBy_trans HG1.out hg12)
  replace HO1 := Lib.hid (Own.ch HO1.out (Ch.ofNone hg12 (fun _ => False)) (fun _ _ _ h => h))
  clear hp ho2 hg2 hg12
  go_upto_region 3 with (refine wpList_fresh rfl rfl rfl rfl rfl hir hirz (by rw [hirs]; rfl) #[.int .u8 5, .slice none 0 0, .slice a2 1 c2] rfl rfl rfl (by simp [Value.oneCell']) ?_; intro w3 hs3 hg3 hr3; have HG3 := Lib.hid (grownBy_trans HG2.out hg3); have HR3 := Lib.hid hr3; have HA3 := Lib.hid (Own.ch HO1.out (Ch.ofNone hg3 (fun _ => False)) (fun _ _ _ h => h)); have HB3 := Lib.hid (Own.ch HO2.out (Ch.ofNone hg3 (fun _ => False)) (fun _ _ _ h => h)); clear hs3 hg3 hr3)
  obtain ⟨bo, hbo⟩ : ∃ bo, bo = w2.heap.size := ⟨_, rfl⟩
  rw [← hbo] at HR3 ⊢
  clear hbo
  go_wp2_with fail
  have hga := World.grownBy_alloc w3 (.cells #[.int .u8 1, .int .u8 2, .int .u8 0, .int .u8 3] 5) none
  have hb4 : BRow (w3.alloc (.cells #[.int .u8 1, .int .u8 2, .int .u8 0, .int .u8 3] 5)) w3.heap.size 5 [1, 2, 0, 3] := heap_alloc_new w3 _
  have ha4 : BOwn (w3.alloc (.cells #[.int .u8 1, .int .u8 2, .int .u8 0, .int .u8 3] 5)) _ a1 4 c1 [1, 2, 0, 3] := Own.ch HA3.out (Ch.ofNone hga (fun _ => False)) (fun _ _ _ h => h)
  refine (same_yes _ _ _ _ _ _ [1, 2, 0, 3] _ (BOwn.lies ha4) (BRow.lies hb4) rfl rfl (by decide)).mono ?_
  rintro e w5 ⟨rfl, q5, hq5⟩
  have hg5 := grownBy_trans hga (show (w3.alloc (.cells #[.int .u8 1, .int .u8 2, .int .u8 0, .int .u8 3] 5)).grownBy w5 none from hq5 ▸ grownBy_drewN _ _ _)
  have HG5 := Lib.hid (grownBy_trans HG3.out hg5)
  have hr5 := HR3.out.grown hg5
  have ho5 : BOwn w5 _ a2 1 c2 [170] := Own.ch HB3.out (Ch.ofNone hg5 (fun _ => False)) (fun _ _ _ h => h)
  obtain ⟨b, off, hb, hc⟩ := (BOwn.lies ho5) 0 (by decide)
  have d0 := Row.cell hr5 0
  have d2 := Row.cell hr5 2
  simp at d0 d2 hc
  subst hb
  clear hga hb4 ha4 hq5 hg5 hr5 ho5 HR3 HA3 HB3
  go_wp2_with fail
  go_ret
  exact ⟨rfl, HG5.out⟩

end Go.Proofs.Ytkdmebcfedehiaa
/- wire.taker: what a request's fields are taken into; its methods. Printed by gens/taker.py. -/
namespace Go.Proofs.Ytkdmebcfedehiaa
open Go.RowKit

/-- a request's cells, and what the taker has besides -/
def tkC (q : Rq) (s : Value) (rest : Int) : Array Value := (.int .u8 (q.kind : Int) :: (q.ix.map bval ++ [.int .i64 q.number, .int .i64 q.pos, .int .i64 q.len, .int .u32 (q.who : Int), .int .i64 q.till, s, .int .i64 rest])).toArray
theorem tk_get (q : Rq) (s : Value) (rest : Int) (h : q.ix.length = 16) (j : Nat) : (tkC q s rest)[17 + j]? = ([.int .i64 q.number, .int .i64 q.pos, .int .i64 q.len, .int .u32 (q.who : Int), .int .i64 q.till, s, .int .i64 rest] : List Value)[j]? := by
  unfold tkC
  rw [List.getElem?_toArray, show 17 + j = (16 + j) + 1 by omega, List.getElem?_cons_succ, List.getElem?_append_right (by simp [h])]
  congr 1
  simp [h]
theorem tk_set (q : Rq) (s : Value) (rest : Int) (h : q.ix.length = 16) (j : Nat) (v : Value) : (tkC q s rest).setIfInBounds (17 + j) v = (.int .u8 (q.kind : Int) :: (q.ix.map bval ++ ([.int .i64 q.number, .int .i64 q.pos, .int .i64 q.len, .int .u32 (q.who : Int), .int .i64 q.till, s, .int .i64 rest] : List Value).set j v)).toArray := by
  unfold tkC
  rw [List.setIfInBounds_toArray, show 17 + j = (16 + j) + 1 by omega, List.set_cons_succ, List.set_append_right _ _ (by simp [h])]
  congr 3
  simp [h]
theorem tk_cell {w : World} {g : Nat} {q : Rq} {s : Value} {rest : Int} (h : Row w g 75 (tkC q s rest)) (hx : q.ix.length = 16) (j : Nat) : w.cell? ⟨g, 17 + j, none⟩ = ([.int .i64 q.number, .int .i64 q.pos, .int .i64 q.len, .int .u32 (q.who : Int), .int .i64 q.till, s, .int .i64 rest] : List Value)[j]? := by
  rw [Row.cell h, tk_get q s rest hx]

/-- fields of a request -/
inductive Fd where
  | num | who | til | rst | at_ | len
def Fd.size : Fd → Nat
  | .num => 1
  | .til => 8
  | _ => 4
def Fd.fid : Fd → FuncId
  | .num => 51
  | .who => 50
  | .til => 52
  | .rst => 53
  | .at_ => 54
  | .len => 55
/-- what is laid down -/
def Fd.put : Fd → Rq × Nat → Nat → Rq × Nat
  | .num, (q, r), x => ({ q with number := x }, r)
  | .who, (q, r), x => ({ q with who := x }, r)
  | .til, (q, r), x => ({ q with till := (min x 1099511627777 : Nat) }, r)
  | .rst, (q, _), x => (q, x)
  | .at_, (q, r), x => ({ q with pos := x }, r)
  | .len, (q, r), x => ({ q with len := x }, r)
def Fd.ok : Fd → Nat → Bool
  | .num, x => decide (x < 255)
  | .who, _ => true
  | .til, x => decide (x ≤ 1099511627776)
  | .rst, x => decide (x ≤ 33554432)
  | .at_, x => decide (x ≤ 33554432)
  | .len, x => decide (1 ≤ x) && decide (x ≤ 131072)
theorem Fd.put_ix (f : Fd) (s : Rq × Nat) (x : Nat) : (f.put s x).1.ix = s.1.ix := by
  obtain ⟨q, r⟩ := s
  cases f <;> rfl
theorem okD_yes {rem : List UInt8} {k : Nat} (h : k ≤ rem.length) : okD false rem (k : Int) = true := by
  unfold okD
  rw [decide_eq_true (by omega), decide_eq_true (by omega)]
  rfl
theorem numD_yes {rem : List UInt8} {k : Nat} (h : k ≤ rem.length) : numD false rem k = smallL (rem.take k) ∧ fD false rem (k : Int) = false ∧ remD false rem (k : Int) = rem.drop k := by
  have e := okD_yes h
  unfold numD fD remD pD
  rw [e]
  exact ⟨rfl, rfl, rfl⟩
theorem byteT {w : World} {g b : Nat} {rem : List UInt8} (h : RA w g b false rem) (hs : 1 ≤ rem.length) : Calls Try.prog 68 #[.pointer (some ⟨g, 0, none⟩)] w fun e w' => e = .returned (.int .u8 (smallL (rem.take 1) : Nat)) ∧ RA w' g b false (rem.drop 1) ∧ w.grownBy w' (some g) := by
  obtain ⟨h1, h2, h3⟩ := numD_yes hs
  have := byteA h
  rw [h1, show (1 : Int) = ((1 : Nat) : Int) from rfl, h2, h3] at this
  exact this
theorem wordT {w : World} {g b : Nat} {rem : List UInt8} (h : RA w g b false rem) (hs : 4 ≤ rem.length) : Calls Try.prog 67 #[.pointer (some ⟨g, 0, none⟩)] w fun e w' => e = .returned (.int .u32 (smallL (rem.take 4) : Nat)) ∧ RA w' g b false (rem.drop 4) ∧ w.grownBy w' (some g) := by
  obtain ⟨h1, h2, h3⟩ := numD_yes hs
  have := wordA h
  rw [h1, show (4 : Int) = ((4 : Nat) : Int) from rfl, h2, h3] at this
  exact this
theorem longT {w : World} {g b : Nat} {rem : List UInt8} (h : RA w g b false rem) (hs : 8 ≤ rem.length) : Calls Try.prog 69 #[.pointer (some ⟨g, 0, none⟩)] w fun e w' => e = .returned (.int .u64 (smallL (rem.take 8) : Nat)) ∧ RA w' g b false (rem.drop 8) ∧ w.grownBy w' (some g) := by
  obtain ⟨h1, h2, h3⟩ := numD_yes hs
  have := longA h
  rw [h1, show (8 : Int) = ((8 : Nat) : Int) from rfl, h2, h3] at this
  exact this

/-- what a field's method does -/
def TakeP (f : Fd) (q : Rq) (r : Nat) (s : Value) (gT gR bR : Nat) (rem : List UInt8) (w : World) (e : Ending) (w' : World) : Prop :=
  e = .returned (.bool (f.ok (smallL (rem.take f.size)))) ∧ Row w' gT 75 (tkC (f.put (q, r) (smallL (rem.take f.size))).1 s ((f.put (q, r) (smallL (rem.take f.size))).2 : Nat)) ∧ RA w' gR bR false (rem.drop f.size) ∧ Ch (fun x => x = gT ∨ x = gR) w w'
set_option maxRecDepth 100000 in
set_option maxHeartbeats 4000000 in
theorem number_t (q : Rq) (r : Nat) (s : Value) (gT gR bR : Nat) (rem : List UInt8) (w : World) (hx : q.ix.length = 16) (hT : Row w gT 75 (tkC q s (r : Nat))) (hR : RA w gR bR false rem) (hne : gT ≠ gR ∧ gT ≠ bR) (hs : 1 ≤ rem.length) :
    Calls Try.prog 51 #[.pointer (some ⟨gT, 0, none⟩), .pointer (some ⟨gR, 0, none⟩)] w (TakeP .num q r s gT gR bR rem w) := by
  have HRD := Lib.hid (byteT hR hs)
  have HT := Lib.hid hT
  have HX := Lib.hid hx
  have HNE := Lib.hid hne
  have hXl : smallL (rem.take 1) < 256 := smallL_lt 1 _ (by rw [List.length_take]; omega)
  obtain ⟨X, hX⟩ : ∃ X, X = smallL (rem.take 1) := ⟨_, rfl⟩
  rw [← hX] at HRD hXl
  have hw : IntKind.i64.wrap (X : Int) = (X : Int) := IntWalk.i64_in _ (by omega)
  have HXX := Lib.hid hX
  skip
  clear hX hT hR hx hne hs
  go_enter Try.func51, Try.ntmps51
  go_wp2_with fail
  refine HRD.out.mono ?_
  rintro e w1 ⟨rfl, hr1, g⟩
  have HR1 := Lib.hid hr1
  have HT1 := Lib.hid (HT.out.grownNe g HNE.out.1)
  have HC1 := Lib.hid (Ch.ofSome (S := fun x => x = gT ∨ x = gR) g (.inr rfl))
  have c1 := tk_cell HT1.out HX.out 0
  have f1 := Row.frozen HT1.out 17
  simp at c1
  clear hr1 g
  go_upto_region 2 with fail
  obtain ⟨w2, h2⟩ : ∃ w2, w2 = w1.setCell ⟨gT, 17, none⟩ (.int .i64 (X : Int)) := ⟨_, rfl⟩
  rw [← h2]
  have g2 : w1.grownBy w2 (some gT) := h2 ▸ grownBy_setCell _ _ _ _
  have hr2 : Row w2 gT 75 (tkC { q with number := X } s (r : Nat)) := by
    have h := Row.setc HT1.out 17 (.int .i64 (X : Int))
    rw [show 17 = 17 + 0 from rfl, tk_set _ _ _ HX.out] at h
    rw [h2]
    exact h
  have HT2 := Lib.hid hr2
  have HC2 := Lib.hid (HC1.out.trans (Ch.ofSome (S := fun x => x = gT) g2 rfl) (fun _ _ h => .inl h))
  have HR2 := Lib.hid (HR1.out.ch (Ch.ofSome (S := fun x => x = gT) g2 rfl) (fun h => HNE.out.1 h.symm) (fun h => HNE.out.2 h.symm))
  clear h2 g2 hr2 c1 f1
  have c2 := tk_cell HT2.out HX.out 0
  simp at c2
  go_wp2_with fail
  refine (number_n (X : Int) _).mono ?_
  rintro e w' ⟨rfl, rfl⟩
  go_wp2_with fail
  go_ret
  exact ⟨by unfold Fd.size Fd.ok; rw [← HXX.out]; exact ret_bool (a := decide ((X : Int) < 255)) (decide_eq_decide.2 ⟨fun h => by omega, fun h => by omega⟩), by unfold Fd.size Fd.put; rw [← HXX.out]; exact HT2.out, HR2.out, HC2.out⟩
set_option maxRecDepth 100000 in
set_option maxHeartbeats 4000000 in
theorem who_t (q : Rq) (r : Nat) (s : Value) (gT gR bR : Nat) (rem : List UInt8) (w : World) (hx : q.ix.length = 16) (hT : Row w gT 75 (tkC q s (r : Nat))) (hR : RA w gR bR false rem) (hne : gT ≠ gR ∧ gT ≠ bR) (hs : 4 ≤ rem.length) :
    Calls Try.prog 50 #[.pointer (some ⟨gT, 0, none⟩), .pointer (some ⟨gR, 0, none⟩)] w (TakeP .who q r s gT gR bR rem w) := by
  have HRD := Lib.hid (wordT hR hs)
  have HT := Lib.hid hT
  have HX := Lib.hid hx
  have HNE := Lib.hid hne
  have hXl : smallL (rem.take 4) < 4294967296 := smallL_lt 4 _ (by rw [List.length_take]; omega)
  obtain ⟨X, hX⟩ : ∃ X, X = smallL (rem.take 4) := ⟨_, rfl⟩
  rw [← hX] at HRD hXl
  have HXX := Lib.hid hX
  skip
  clear hX hT hR hx hne hs
  go_enter Try.func50, Try.ntmps50
  go_wp2_with fail
  refine HRD.out.mono ?_
  rintro e w1 ⟨rfl, hr1, g⟩
  have HR1 := Lib.hid hr1
  have HT1 := Lib.hid (HT.out.grownNe g HNE.out.1)
  have HC1 := Lib.hid (Ch.ofSome (S := fun x => x = gT ∨ x = gR) g (.inr rfl))
  have c1 := tk_cell HT1.out HX.out 3
  have f1 := Row.frozen HT1.out 20
  simp at c1
  clear hr1 g
  go_upto_region 2 with fail
  obtain ⟨w2, h2⟩ : ∃ w2, w2 = w1.setCell ⟨gT, 20, none⟩ (.int .u32 (X : Int)) := ⟨_, rfl⟩
  rw [← h2]
  have g2 : w1.grownBy w2 (some gT) := h2 ▸ grownBy_setCell _ _ _ _
  have hr2 : Row w2 gT 75 (tkC { q with who := X } s (r : Nat)) := by
    have h := Row.setc HT1.out 20 (.int .u32 (X : Int))
    rw [show 20 = 17 + 3 from rfl, tk_set _ _ _ HX.out] at h
    rw [h2]
    exact h
  have HT2 := Lib.hid hr2
  have HC2 := Lib.hid (HC1.out.trans (Ch.ofSome (S := fun x => x = gT) g2 rfl) (fun _ _ h => .inl h))
  have HR2 := Lib.hid (HR1.out.ch (Ch.ofSome (S := fun x => x = gT) g2 rfl) (fun h => HNE.out.1 h.symm) (fun h => HNE.out.2 h.symm))
  clear h2 g2 hr2 c1 f1
  go_wp2_with fail
  go_ret
  exact ⟨by unfold Fd.size Fd.ok; rw [← HXX.out]; exact rfl, by unfold Fd.size Fd.put; rw [← HXX.out]; exact HT2.out, HR2.out, HC2.out⟩
set_option maxRecDepth 100000 in
set_option maxHeartbeats 4000000 in
theorem bytes_t (q : Rq) (r : Nat) (s : Value) (gT gR bR : Nat) (rem : List UInt8) (w : World) (hx : q.ix.length = 16) (hT : Row w gT 75 (tkC q s (r : Nat))) (hR : RA w gR bR false rem) (hne : gT ≠ gR ∧ gT ≠ bR) (hs : 4 ≤ rem.length) :
    Calls Try.prog 53 #[.pointer (some ⟨gT, 0, none⟩), .pointer (some ⟨gR, 0, none⟩)] w (TakeP .rst q r s gT gR bR rem w) := by
  have HRD := Lib.hid (wordT hR hs)
  have HT := Lib.hid hT
  have HX := Lib.hid hx
  have HNE := Lib.hid hne
  have hXl : smallL (rem.take 4) < 4294967296 := smallL_lt 4 _ (by rw [List.length_take]; omega)
  obtain ⟨X, hX⟩ : ∃ X, X = smallL (rem.take 4) := ⟨_, rfl⟩
  rw [← hX] at HRD hXl
  have hw : IntKind.i64.wrap (X : Int) = (X : Int) := IntWalk.i64_in _ (by omega)
  have HXX := Lib.hid hX
  skip
  clear hX hT hR hx hne hs
  go_enter Try.func53, Try.ntmps53
  go_wp2_with fail
  refine HRD.out.mono ?_
  rintro e w1 ⟨rfl, hr1, g⟩
  have HR1 := Lib.hid hr1
  have HT1 := Lib.hid (HT.out.grownNe g HNE.out.1)
  have HC1 := Lib.hid (Ch.ofSome (S := fun x => x = gT ∨ x = gR) g (.inr rfl))
  have c1 := tk_cell HT1.out HX.out 6
  have f1 := Row.frozen HT1.out 23
  simp at c1
  clear hr1 g
  go_upto_region 2 with fail
  obtain ⟨w2, h2⟩ : ∃ w2, w2 = w1.setCell ⟨gT, 23, none⟩ (.int .i64 (X : Int)) := ⟨_, rfl⟩
  rw [← h2]
  have g2 : w1.grownBy w2 (some gT) := h2 ▸ grownBy_setCell _ _ _ _
  have hr2 : Row w2 gT 75 (tkC q s (X : Nat)) := by
    have h := Row.setc HT1.out 23 (.int .i64 (X : Int))
    rw [show 23 = 17 + 6 from rfl, tk_set _ _ _ HX.out] at h
    rw [h2]
    exact h
  have HT2 := Lib.hid hr2
  have HC2 := Lib.hid (HC1.out.trans (Ch.ofSome (S := fun x => x = gT) g2 rfl) (fun _ _ h => .inl h))
  have HR2 := Lib.hid (HR1.out.ch (Ch.ofSome (S := fun x => x = gT) g2 rfl) (fun h => HNE.out.1 h.symm) (fun h => HNE.out.2 h.symm))
  clear h2 g2 hr2 c1 f1
  have c2 := tk_cell HT2.out HX.out 6
  simp at c2
  by_cases hle : X ≤ 33554432
  · have hd : decide ((X : Int) ≤ 33554432) = true := decide_eq_true (by omega)
    have hd2 : decide (X ≤ 33554432) = true := decide_eq_true hle
    go_wp2_with fail
    go_ret
    exact ⟨by unfold Fd.size Fd.ok; rw [← HXX.out]; exact ret_bool hd2.symm, by unfold Fd.size Fd.put; rw [← HXX.out]; exact HT2.out, HR2.out, HC2.out⟩
  · have hd : decide ((X : Int) ≤ 33554432) = false := decide_eq_false (by omega)
    have hd2 : decide (X ≤ 33554432) = false := decide_eq_false hle
    go_wp2_with fail
    go_ret
    exact ⟨by unfold Fd.size Fd.ok; rw [← HXX.out]; exact ret_bool hd2.symm, by unfold Fd.size Fd.put; rw [← HXX.out]; exact HT2.out, HR2.out, HC2.out⟩
set_option maxRecDepth 100000 in
set_option maxHeartbeats 4000000 in
theorem at_t (q : Rq) (r : Nat) (s : Value) (gT gR bR : Nat) (rem : List UInt8) (w : World) (hx : q.ix.length = 16) (hT : Row w gT 75 (tkC q s (r : Nat))) (hR : RA w gR bR false rem) (hne : gT ≠ gR ∧ gT ≠ bR) (hs : 4 ≤ rem.length) :
    Calls Try.prog 54 #[.pointer (some ⟨gT, 0, none⟩), .pointer (some ⟨gR, 0, none⟩)] w (TakeP .at_ q r s gT gR bR rem w) := by
  have HRD := Lib.hid (wordT hR hs)
  have HT := Lib.hid hT
  have HX := Lib.hid hx
  have HNE := Lib.hid hne
  have hXl : smallL (rem.take 4) < 4294967296 := smallL_lt 4 _ (by rw [List.length_take]; omega)
  obtain ⟨X, hX⟩ : ∃ X, X = smallL (rem.take 4) := ⟨_, rfl⟩
  rw [← hX] at HRD hXl
  have hw : IntKind.i64.wrap (X : Int) = (X : Int) := IntWalk.i64_in _ (by omega)
  have HXX := Lib.hid hX
  skip
  clear hX hT hR hx hne hs
  go_enter Try.func54, Try.ntmps54
  go_wp2_with fail
  refine HRD.out.mono ?_
  rintro e w1 ⟨rfl, hr1, g⟩
  have HR1 := Lib.hid hr1
  have HT1 := Lib.hid (HT.out.grownNe g HNE.out.1)
  have HC1 := Lib.hid (Ch.ofSome (S := fun x => x = gT ∨ x = gR) g (.inr rfl))
  have c1 := tk_cell HT1.out HX.out 1
  have f1 := Row.frozen HT1.out 18
  simp at c1
  clear hr1 g
  go_upto_region 2 with fail
  obtain ⟨w2, h2⟩ : ∃ w2, w2 = w1.setCell ⟨gT, 18, none⟩ (.int .i64 (X : Int)) := ⟨_, rfl⟩
  rw [← h2]
  have g2 : w1.grownBy w2 (some gT) := h2 ▸ grownBy_setCell _ _ _ _
  have hr2 : Row w2 gT 75 (tkC { q with pos := X } s (r : Nat)) := by
    have h := Row.setc HT1.out 18 (.int .i64 (X : Int))
    rw [show 18 = 17 + 1 from rfl, tk_set _ _ _ HX.out] at h
    rw [h2]
    exact h
  have HT2 := Lib.hid hr2
  have HC2 := Lib.hid (HC1.out.trans (Ch.ofSome (S := fun x => x = gT) g2 rfl) (fun _ _ h => .inl h))
  have HR2 := Lib.hid (HR1.out.ch (Ch.ofSome (S := fun x => x = gT) g2 rfl) (fun h => HNE.out.1 h.symm) (fun h => HNE.out.2 h.symm))
  clear h2 g2 hr2 c1 f1
  have c2 := tk_cell HT2.out HX.out 1
  simp at c2
  by_cases hle : X ≤ 33554432
  · have hd : decide ((X : Int) ≤ 33554432) = true := decide_eq_true (by omega)
    have hd2 : decide (X ≤ 33554432) = true := decide_eq_true hle
    go_wp2_with fail
    go_ret
    exact ⟨by unfold Fd.size Fd.ok; rw [← HXX.out]; exact ret_bool hd2.symm, by unfold Fd.size Fd.put; rw [← HXX.out]; exact HT2.out, HR2.out, HC2.out⟩
  · have hd : decide ((X : Int) ≤ 33554432) = false := decide_eq_false (by omega)
    have hd2 : decide (X ≤ 33554432) = false := decide_eq_false hle
    go_wp2_with fail
    go_ret
    exact ⟨by unfold Fd.size Fd.ok; rw [← HXX.out]; exact ret_bool hd2.symm, by unfold Fd.size Fd.put; rw [← HXX.out]; exact HT2.out, HR2.out, HC2.out⟩
set_option maxRecDepth 100000 in
set_option maxHeartbeats 4000000 in
theorem len_t (q : Rq) (r : Nat) (s : Value) (gT gR bR : Nat) (rem : List UInt8) (w : World) (hx : q.ix.length = 16) (hT : Row w gT 75 (tkC q s (r : Nat))) (hR : RA w gR bR false rem) (hne : gT ≠ gR ∧ gT ≠ bR) (hs : 4 ≤ rem.length) :
    Calls Try.prog 55 #[.pointer (some ⟨gT, 0, none⟩), .pointer (some ⟨gR, 0, none⟩)] w (TakeP .len q r s gT gR bR rem w) := by
  have HRD := Lib.hid (wordT hR hs)
  have HT := Lib.hid hT
  have HX := Lib.hid hx
  have HNE := Lib.hid hne
  have hXl : smallL (rem.take 4) < 4294967296 := smallL_lt 4 _ (by rw [List.length_take]; omega)
  obtain ⟨X, hX⟩ : ∃ X, X = smallL (rem.take 4) := ⟨_, rfl⟩
  rw [← hX] at HRD hXl
  have hw : IntKind.i64.wrap (X : Int) = (X : Int) := IntWalk.i64_in _ (by omega)
  have HXX := Lib.hid hX
  skip
  clear hX hT hR hx hne hs
  go_enter Try.func55, Try.ntmps55
  go_wp2_with fail
  refine HRD.out.mono ?_
  rintro e w1 ⟨rfl, hr1, g⟩
  have HR1 := Lib.hid hr1
  have HT1 := Lib.hid (HT.out.grownNe g HNE.out.1)
  have HC1 := Lib.hid (Ch.ofSome (S := fun x => x = gT ∨ x = gR) g (.inr rfl))
  have c1 := tk_cell HT1.out HX.out 2
  have f1 := Row.frozen HT1.out 19
  simp at c1
  clear hr1 g
  go_upto_region 2 with fail
  obtain ⟨w2, h2⟩ : ∃ w2, w2 = w1.setCell ⟨gT, 19, none⟩ (.int .i64 (X : Int)) := ⟨_, rfl⟩
  rw [← h2]
  have g2 : w1.grownBy w2 (some gT) := h2 ▸ grownBy_setCell _ _ _ _
  have hr2 : Row w2 gT 75 (tkC { q with len := X } s (r : Nat)) := by
    have h := Row.setc HT1.out 19 (.int .i64 (X : Int))
    rw [show 19 = 17 + 2 from rfl, tk_set _ _ _ HX.out] at h
    rw [h2]
    exact h
  have HT2 := Lib.hid hr2
  have HC2 := Lib.hid (HC1.out.trans (Ch.ofSome (S := fun x => x = gT) g2 rfl) (fun _ _ h => .inl h))
  have HR2 := Lib.hid (HR1.out.ch (Ch.ofSome (S := fun x => x = gT) g2 rfl) (fun h => HNE.out.1 h.symm) (fun h => HNE.out.2 h.symm))
  clear h2 g2 hr2 c1 f1
  have c2 := tk_cell HT2.out HX.out 2
  simp at c2
  by_cases h1 : 1 ≤ X
  · have e1 : decide ((1 : Int) ≤ (X : Int)) = true := decide_eq_true (by omega)
    have e2 : decide (1 ≤ X) = true := decide_eq_true h1
    by_cases hle : X ≤ 131072
    · have hd : decide ((X : Int) ≤ 131072) = true := decide_eq_true (by omega)
      have hd2 : decide (X ≤ 131072) = true := decide_eq_true hle
      go_wp2_with fail
      go_ret
      exact ⟨by unfold Fd.size Fd.ok; rw [← HXX.out]; exact ret_bool (show _ = (decide (1 ≤ X) && decide (X ≤ 131072)) by rw [e2, hd2]; rfl), by unfold Fd.size Fd.put; rw [← HXX.out]; exact HT2.out, HR2.out, HC2.out⟩
    · have hd : decide ((X : Int) ≤ 131072) = false := decide_eq_false (by omega)
      have hd2 : decide (X ≤ 131072) = false := decide_eq_false hle
      go_wp2_with fail
      go_ret
      exact ⟨by unfold Fd.size Fd.ok; rw [← HXX.out]; exact ret_bool (show _ = (decide (1 ≤ X) && decide (X ≤ 131072)) by rw [e2, hd2]; rfl), by unfold Fd.size Fd.put; rw [← HXX.out]; exact HT2.out, HR2.out, HC2.out⟩
  · have e1 : decide ((1 : Int) ≤ (X : Int)) = false := decide_eq_false (by omega)
    have e2 : decide (1 ≤ X) = false := decide_eq_false h1
    go_wp2_with fail
    go_ret
    exact ⟨by unfold Fd.size Fd.ok; rw [← HXX.out]; exact ret_bool (show _ = (decide (1 ≤ X) && decide (X ≤ 131072)) by rw [e2]; rfl), by unfold Fd.size Fd.put; rw [← HXX.out]; exact HT2.out, HR2.out, HC2.out⟩
set_option maxRecDepth 100000 in
set_option maxHeartbeats 4000000 in
theorem until_t (q : Rq) (r : Nat) (s : Value) (gT gR bR : Nat) (rem : List UInt8) (w : World) (hx : q.ix.length = 16) (hT : Row w gT 75 (tkC q s (r : Nat))) (hR : RA w gR bR false rem) (hne : gT ≠ gR ∧ gT ≠ bR) (hs : 8 ≤ rem.length) :
    Calls Try.prog 52 #[.pointer (some ⟨gT, 0, none⟩), .pointer (some ⟨gR, 0, none⟩)] w (TakeP .til q r s gT gR bR rem w) := by
  have HRD := Lib.hid (longT hR hs)
  have HT := Lib.hid hT
  have HX := Lib.hid hx
  have HNE := Lib.hid hne
  have hXl : smallL (rem.take 8) < 18446744073709551616 := smallL_lt 8 _ (by rw [List.length_take]; omega)
  obtain ⟨X, hX⟩ : ∃ X, X = smallL (rem.take 8) := ⟨_, rfl⟩
  rw [← hX] at HRD hXl
  obtain ⟨Y, hY⟩ : ∃ Y, Y = min X 1099511627777 := ⟨_, rfl⟩
  have hYb : Y ≤ 1099511627777 := by omega
  have hif : (if (1099511627777 : Int) < (X : Int) then (1099511627777 : Int) else (X : Int)) = (Y : Int) := by split <;> omega
  have hw : IntKind.i64.wrap (Y : Int) = (Y : Int) := IntWalk.i64_in _ (by omega)
  have HXX := Lib.hid hX
  have HYY := Lib.hid hY
  clear hX hT hR hx hne hs hY
  go_enter Try.func52, Try.ntmps52
  go_wp2_with fail
  refine HRD.out.mono ?_
  rintro e w1 ⟨rfl, hr1, g⟩
  have HR1 := Lib.hid hr1
  have HT1 := Lib.hid (HT.out.grownNe g HNE.out.1)
  have HC1 := Lib.hid (Ch.ofSome (S := fun x => x = gT ∨ x = gR) g (.inr rfl))
  have c1 := tk_cell HT1.out HX.out 4
  have f1 := Row.frozen HT1.out 21
  simp at c1
  clear hr1 g
  go_upto_region 3 with fail
  obtain ⟨w2, h2⟩ : ∃ w2, w2 = w1.setCell ⟨gT, 21, none⟩ (.int .i64 (Y : Int)) := ⟨_, rfl⟩
  rw [← h2]
  have g2 : w1.grownBy w2 (some gT) := h2 ▸ grownBy_setCell _ _ _ _
  have hr2 : Row w2 gT 75 (tkC { q with till := (Y : Nat) } s (r : Nat)) := by
    have h := Row.setc HT1.out 21 (.int .i64 (Y : Int))
    rw [show 21 = 17 + 4 from rfl, tk_set _ _ _ HX.out] at h
    rw [h2]
    exact h
  have HT2 := Lib.hid hr2
  have HC2 := Lib.hid (HC1.out.trans (Ch.ofSome (S := fun x => x = gT) g2 rfl) (fun _ _ h => .inl h))
  have HR2 := Lib.hid (HR1.out.ch (Ch.ofSome (S := fun x => x = gT) g2 rfl) (fun h => HNE.out.1 h.symm) (fun h => HNE.out.2 h.symm))
  clear h2 g2 hr2 c1 f1
  by_cases hle : X ≤ 1099511627776
  · have hd : decide ((X : Int) ≤ 1099511627776) = true := decide_eq_true (by omega)
    have hd2 : decide (X ≤ 1099511627776) = true := decide_eq_true hle
    go_wp2_with fail
    go_ret
    exact ⟨by unfold Fd.size Fd.ok; rw [← HXX.out]; exact ret_bool hd2.symm, by unfold Fd.size Fd.put; rw [← HXX.out]; exact (show Row w2 gT 75 (tkC { q with till := ((min X 1099511627777 : Nat) : Int) } s (r : Nat)) by rw [← HYY.out]; exact HT2.out), HR2.out, HC2.out⟩
  · have hd : decide ((X : Int) ≤ 1099511627776) = false := decide_eq_false (by omega)
    have hd2 : decide (X ≤ 1099511627776) = false := decide_eq_false hle
    go_wp2_with fail
    go_ret
    exact ⟨by unfold Fd.size Fd.ok; rw [← HXX.out]; exact ret_bool hd2.symm, by unfold Fd.size Fd.put; rw [← HXX.out]; exact (show Row w2 gT 75 (tkC { q with till := ((min X 1099511627777 : Nat) : Int) } s (r : Nat)) by rw [← HYY.out]; exact HT2.out), HR2.out, HC2.out⟩
theorem take_t (f : Fd) (q : Rq) (r : Nat) (s : Value) (gT gR bR : Nat) (rem : List UInt8) (w : World) (hx : q.ix.length = 16) (hT : Row w gT 75 (tkC q s (r : Nat))) (hR : RA w gR bR false rem) (hne : gT ≠ gR ∧ gT ≠ bR) (hs : f.size ≤ rem.length) :
    Calls Try.prog f.fid #[.pointer (some ⟨gT, 0, none⟩), .pointer (some ⟨gR, 0, none⟩)] w (TakeP f q r s gT gR bR rem w) := by
  cases f
  · exact number_t q r s gT gR bR rem w hx hT hR hne hs
  · exact who_t q r s gT gR bR rem w hx hT hR hne hs
  · exact until_t q r s gT gR bR rem w hx hT hR hne hs
  · exact bytes_t q r s gT gR bR rem w hx hT hR hne hs
  · exact at_t q r s gT gR bR rem w hx hT hR hne hs
  · exact len_t q r s gT gR bR rem w hx hT hR hne hs
end Go.Proofs.Ytkdmebcfedehiaa
/- wire.taker's fields: which fields a kind of request has. Printed by gens/fields.py. -/
namespace Go.Proofs.Ytkdmebcfedehiaa
open Go.RowKit

def fieldsQ (k : Nat) : List Fd := if k = 2 then [.num, .who, .til, .rst] else if k = 3 then [.num, .at_, .len] else if k = 4 then [.who, .til] else if k = 5 then [.who] else []
def fdV (gT : Nat) (f : Fd) : List Value := [.int .i64 (f.size : Int), .func (Fn.func f.fid) #[.pointer (some ⟨gT, 0, none⟩)] #[]]
def fdC (gT : Nat) (F : List Fd) : List Value := F.flatMap (fdV gT)
theorem info_field : ∃ i z, Try.prog.info? 81 = some i ∧ i.zero = some z ∧ i.size = z.cells.size ∧ z.cells.size = 2 := ⟨(Try.prog.info? 81).getD default, .agg #[.int .i64 0, .nilFunc], by kernel_rfl, by kernel_rfl, by kernel_rfl, by kernel_rfl⟩
theorem own_fields (w : World) (gT : Nat) (F : List Fd) (n : Nat) (hn : F.length = n) (hm : n ≤ 10) : Own (w.alloc (.cells (fdC gT F).toArray 81)) w.heap.size 81 2 (some ⟨w.heap.size, 0, none⟩) n n (fdC gT F) := by
  have hl : (fdC gT F).length = n * 2 := by
    subst hn
    unfold fdC fdV
    induction F with
    | nil => rfl
    | cons f r ih => simp only [List.flatMap_cons, List.length_append, List.length_cons, List.length_nil]; have := ih (by simp at hm ⊢; omega); omega
  refine ⟨hl, .inr ⟨w.heap.size, (fdC gT F).toArray, rfl, Nat.le_refl _, heap_alloc_new w _, Nat.le_refl _, by unfold maxLen; omega, by simpa using hl, ?_⟩⟩
  rw [← hl]
  exact List.take_length

set_option maxRecDepth 100000 in
set_option maxHeartbeats 4000000 in
theorem fields_n (K : Int) (k gT : Nat) (w : World) (hK : K = (k : Int)) :
    Calls Try.prog 29 #[.pointer (some ⟨gT, 0, none⟩), .int .u8 K] w fun e w' => ∃ aF nF cF, e = .returned (.tuple #[.slice aF nF cF, .bool (decide (headQ k ≠ 0))]) ∧ Own w' w.heap.size 81 2 aF nF cF (fdC gT (fieldsQ k)) ∧ (fieldsQ k).length = nF ∧ w.grownBy w' none := by
  obtain ⟨iF, zF, hiF, hzF, hsF, hcF⟩ := info_field
  by_cases h1 : k = 1
  · subst h1
    have hK1 : K = 1 := hK
    subst hK1
    clear hK
    go_enter Try.func29, Try.ntmps29
    go_wp2_with (first | (refine wpList_fresh rfl rfl rfl rfl rfl hiF hzF hsF #[.int .i64 4, .func (Fn.func 50) #[.pointer (some ⟨gT, 0, none⟩)] #[]] rfl rfl hcF (by simp [Value.oneCell']) ?_; intro w1 hs g hr; have G1 := Lib.hid g; have R1 := Lib.hid hr; clear hs g hr) | (refine wpList_load_row rfl 81 _ rfl w.heap.size rfl 81 #[.int .i64 4, .func (Fn.func 50) #[.pointer (some ⟨gT, 0, none⟩)] #[]] (0, 0) _ R1.out Try.underlying81 rfl (by kernel_rfl) ?_))
    go_ret2
    exact ⟨_, _, _, rfl, Own.nil _ _ _ _ _, rfl, G1.out⟩
  by_cases h2 : k = 2
  · subst h2
    have hK1 : K = 2 := hK
    subst hK1
    clear hK
    go_enter Try.func29, Try.ntmps29
    go_wp2_with (first | (refine wpList_fresh rfl rfl rfl rfl rfl hiF hzF hsF #[.int .i64 4, .func (Fn.func 50) #[.pointer (some ⟨gT, 0, none⟩)] #[]] rfl rfl hcF (by simp [Value.oneCell']) ?_; intro w1 hs g hr; have G1 := Lib.hid g; have R1 := Lib.hid hr; clear hs g hr) | (refine wpList_load_row rfl 81 _ rfl w.heap.size rfl 81 #[.int .i64 4, .func (Fn.func 50) #[.pointer (some ⟨gT, 0, none⟩)] #[]] (0, 0) _ R1.out Try.underlying81 rfl (by kernel_rfl) ?_))
    go_ret2
    exact ⟨_, _, _, rfl, Own.mono (own_fields w1 gT (fieldsQ 2) 4 rfl (by omega)) G1.out.size, rfl, grownBy_trans G1.out (World.grownBy_alloc _ _ _)⟩
  by_cases h3 : k = 3
  · subst h3
    have hK1 : K = 3 := hK
    subst hK1
    clear hK
    go_enter Try.func29, Try.ntmps29
    go_wp2_with (first | (refine wpList_fresh rfl rfl rfl rfl rfl hiF hzF hsF #[.int .i64 4, .func (Fn.func 50) #[.pointer (some ⟨gT, 0, none⟩)] #[]] rfl rfl hcF (by simp [Value.oneCell']) ?_; intro w1 hs g hr; have G1 := Lib.hid g; have R1 := Lib.hid hr; clear hs g hr) | (refine wpList_load_row rfl 81 _ rfl w.heap.size rfl 81 #[.int .i64 4, .func (Fn.func 50) #[.pointer (some ⟨gT, 0, none⟩)] #[]] (0, 0) _ R1.out Try.underlying81 rfl (by kernel_rfl) ?_))
    go_ret2
    exact ⟨_, _, _, rfl, Own.mono (own_fields w1 gT (fieldsQ 3) 3 rfl (by omega)) G1.out.size, rfl, grownBy_trans G1.out (World.grownBy_alloc _ _ _)⟩
  by_cases h4 : k = 4
  · subst h4
    have hK1 : K = 4 := hK
    subst hK1
    clear hK
    go_enter Try.func29, Try.ntmps29
    go_wp2_with (first | (refine wpList_fresh rfl rfl rfl rfl rfl hiF hzF hsF #[.int .i64 4, .func (Fn.func 50) #[.pointer (some ⟨gT, 0, none⟩)] #[]] rfl rfl hcF (by simp [Value.oneCell']) ?_; intro w1 hs g hr; have G1 := Lib.hid g; have R1 := Lib.hid hr; clear hs g hr) | (refine wpList_load_row rfl 81 _ rfl w.heap.size rfl 81 #[.int .i64 4, .func (Fn.func 50) #[.pointer (some ⟨gT, 0, none⟩)] #[]] (0, 0) _ R1.out Try.underlying81 rfl (by kernel_rfl) ?_))
    go_ret2
    exact ⟨_, _, _, rfl, Own.mono (own_fields w1 gT (fieldsQ 4) 2 rfl (by omega)) G1.out.size, rfl, grownBy_trans G1.out (World.grownBy_alloc _ _ _)⟩
  by_cases h5 : k = 5
  · subst h5
    have hK1 : K = 5 := hK
    subst hK1
    clear hK
    go_enter Try.func29, Try.ntmps29
    go_wp2_with (first | (refine wpList_fresh rfl rfl rfl rfl rfl hiF hzF hsF #[.int .i64 4, .func (Fn.func 50) #[.pointer (some ⟨gT, 0, none⟩)] #[]] rfl rfl hcF (by simp [Value.oneCell']) ?_; intro w1 hs g hr; have G1 := Lib.hid g; have R1 := Lib.hid hr; clear hs g hr) | (refine wpList_load_row rfl 81 _ rfl w.heap.size rfl 81 #[.int .i64 4, .func (Fn.func 50) #[.pointer (some ⟨gT, 0, none⟩)] #[]] (0, 0) _ R1.out Try.underlying81 rfl (by kernel_rfl) ?_))
    go_ret2
    exact ⟨_, _, _, rfl, Own.mono (own_fields w1 gT (fieldsQ 5) 1 rfl (by omega)) G1.out.size, rfl, grownBy_trans G1.out (World.grownBy_alloc _ _ _)⟩
  have hh : headQ k = 0 := by unfold headQ; rw [if_neg h1, if_neg h2, if_neg h3, if_neg h4, if_neg h5]
  have hf : fieldsQ k = [] := by unfold fieldsQ; rw [if_neg h2, if_neg h3, if_neg h4, if_neg h5]
  rw [hh, hf]
  have e1 : (K == 1) = false := by rw [beq_eq_false_iff_ne]; omega
  have e2 : (K == 2) = false := by rw [beq_eq_false_iff_ne]; omega
  have e3 : (K == 3) = false := by rw [beq_eq_false_iff_ne]; omega
  have e4 : (K == 4) = false := by rw [beq_eq_false_iff_ne]; omega
  have e5 : (K == 5) = false := by rw [beq_eq_false_iff_ne]; omega
  clear hK hh hf h1 h2 h3 h4 h5
  go_enter Try.func29, Try.ntmps29
  go_wp2_with (first | (refine wpList_fresh rfl rfl rfl rfl rfl hiF hzF hsF #[.int .i64 4, .func (Fn.func 50) #[.pointer (some ⟨gT, 0, none⟩)] #[]] rfl rfl hcF (by simp [Value.oneCell']) ?_; intro w1 hs g hr; have G1 := Lib.hid g; have R1 := Lib.hid hr; clear hs g hr) | (refine wpList_load_row rfl 81 _ rfl w.heap.size rfl 81 #[.int .i64 4, .func (Fn.func 50) #[.pointer (some ⟨gT, 0, none⟩)] #[]] (0, 0) _ R1.out Try.underlying81 rfl (by kernel_rfl) ?_))
  go_ret2
  exact ⟨_, _, _, rfl, Own.nil _ _ _ _ _, rfl, G1.out⟩
end Go.Proofs.Ytkdmebcfedehiaa
/- Plain Lean: a request's fields, one behind the other, are the request. -/
namespace Go.Proofs.Ytkdmebcfedehiaa
open Go.RowKit

def sumS : List Fd → Nat
  | [] => 0
  | f :: r => f.size + sumS r
/-- fields taken in, one behind the other -/
def runF (b : List UInt8) : List Fd → Rq × Nat → Nat → Except Nat (Rq × Nat)
  | [], s, _ => .ok s
  | f :: r, s, p => if f.ok (getN b p f.size) = true then runF b r (f.put s (getN b p f.size)) (p + f.size) else .error p
theorem head_sum {k : Nat} (h : headQ k ≠ 0) : headQ k = 17 + sumS (fieldsQ k) := by
  rcases headQ_cases h with rfl | rfl | rfl | rfl | rfl <;> rfl
def q0 (b : List UInt8) : Rq := ⟨(b.getD 0 0).toNat, seg b 1 16, 0, 0, 0, 0, 0, []⟩
/-- what is made of the taker at the end -/
def endG (b : List UInt8) (h : Nat) : Except Nat (Rq × Nat) → Except Nat Rq
  | .error p => .error p
  | .ok (q, r) => endQ b h r q
theorem ok_num (b : List UInt8) (p : Nat) (hp : p < b.length) : (Fd.ok .num (getN b p 1) = true ↔ b.getD p 0 ≠ 255) ∧ ((getN b p 1 : Nat) : Int) = byN (b.getD p 0) := by
  have e : getN b p 1 = (b.getD p 0).toNat := by
    unfold getN
    rw [← getD_cons_drop (b := b) (p := p) rfl hp]
    simp [smallL]
  rw [e]
  refine ⟨?_, rfl⟩
  show decide ((b.getD p 0).toNat < 255) = true ↔ _
  rw [decide_eq_true_eq]
  have h255 : b.getD p 0 = 255 ↔ (b.getD p 0).toNat = 255 := by rw [← UInt8.toNat_inj]; rfl
  have := (b.getD p 0).toNat_lt
  rw [ne_eq, h255]
  omega
theorem decG (b : List UInt8) (hk : headQ (b.getD 0 0).toNat ≠ 0) (hl : headQ (b.getD 0 0).toNat ≤ b.length) (hb : b ≠ []) : decQ b = endG b (headQ (b.getD 0 0).toNat) (runF b (fieldsQ (b.getD 0 0).toNat) (q0 b, 0) 17) := by
  unfold decQ
  rw [if_neg (fun h => h.elim hb hk), if_neg (by omega)]
  have hq : q0 b = ⟨(b.getD 0 0).toNat, seg b 1 16, 0, 0, 0, 0, 0, []⟩ := rfl
  rcases headQ_cases hk with e | e | e | e | e <;> rw [e] at hq hl ⊢ <;> rw [hq]
  · rfl
  · have hl34 : 34 ≤ b.length := hl
    obtain ⟨n1, n2⟩ := ok_num b 17 (by omega)
    rw [if_neg (by decide), if_pos rfl]
    show _ = endG b 34 (runF b [.num, .who, .til, .rst] _ 17)
    unfold runF
    show _ = endG b 34 (if Fd.ok .num (getN b 17 1) = true then _ else .error 17)
    by_cases h1 : b.getD 17 0 = 255
    · rw [if_pos h1, if_neg (fun h => (n1.1 h) h1)]; rfl
    rw [if_neg h1, if_pos (n1.2 h1)]
    unfold runF
    show _ = endG b 34 (if true = true then _ else _)
    rw [if_pos rfl]
    unfold runF
    show _ = endG b 34 (if decide (getN b 22 8 ≤ 1099511627776) = true then _ else .error 22)
    by_cases h2 : 1099511627776 < getN b 22 8
    · rw [if_pos h2, if_neg (show ¬ decide (getN b 22 8 ≤ 1099511627776) = true by rw [decide_eq_true_eq]; omega)]; rfl
    rw [if_neg h2, if_pos (show decide (getN b 22 8 ≤ 1099511627776) = true by rw [decide_eq_true_eq]; omega)]
    unfold runF
    show _ = endG b 34 (if decide (getN b 30 4 ≤ 33554432) = true then _ else .error 30)
    by_cases h3 : 33554432 < getN b 30 4
    · rw [if_pos h3, if_neg (show ¬ decide (getN b 30 4 ≤ 33554432) = true by rw [decide_eq_true_eq]; omega)]; rfl
    rw [if_neg h3, if_pos (show decide (getN b 30 4 ≤ 33554432) = true by rw [decide_eq_true_eq]; omega)]
    show _ = endQ b 34 (getN b 30 4) ⟨2, seg b 1 16, (getN b 17 1 : Nat), 0, 0, getN b 18 4, (min (getN b 22 8) 1099511627777 : Nat), []⟩
    rw [n2, Nat.min_eq_left (by omega)]
  · have hl26 : 26 ≤ b.length := hl
    obtain ⟨n1, n2⟩ := ok_num b 17 (by omega)
    rw [if_neg (by decide), if_neg (by decide), if_pos rfl]
    show _ = endG b 26 (runF b [.num, .at_, .len] _ 17)
    unfold runF
    show _ = endG b 26 (if Fd.ok .num (getN b 17 1) = true then _ else .error 17)
    by_cases h1 : b.getD 17 0 = 255
    · rw [if_pos h1, if_neg (fun h => (n1.1 h) h1)]; rfl
    rw [if_neg h1, if_pos (n1.2 h1)]
    unfold runF
    show _ = endG b 26 (if decide (getN b 18 4 ≤ 33554432) = true then _ else .error 18)
    by_cases h2 : 33554432 < getN b 18 4
    · rw [if_pos h2, if_neg (show ¬ decide (getN b 18 4 ≤ 33554432) = true by rw [decide_eq_true_eq]; omega)]; rfl
    rw [if_neg h2, if_pos (show decide (getN b 18 4 ≤ 33554432) = true by rw [decide_eq_true_eq]; omega)]
    unfold runF
    show _ = endG b 26 (if (decide (1 ≤ getN b 22 4) && decide (getN b 22 4 ≤ 131072)) = true then _ else .error 22)
    by_cases h3 : getN b 22 4 < 1 ∨ 131072 < getN b 22 4
    · rw [if_pos h3, if_neg (show ¬ (decide (1 ≤ getN b 22 4) && decide (getN b 22 4 ≤ 131072)) = true by rw [Bool.and_eq_true, decide_eq_true_eq, decide_eq_true_eq]; omega)]; rfl
    rw [if_neg h3, if_pos (show (decide (1 ≤ getN b 22 4) && decide (getN b 22 4 ≤ 131072)) = true by rw [Bool.and_eq_true, decide_eq_true_eq, decide_eq_true_eq]; omega)]
    show _ = endQ b 26 0 ⟨3, seg b 1 16, (getN b 17 1 : Nat), (getN b 18 4 : Nat), (getN b 22 4 : Nat), 0, 0, []⟩
    rw [n2]
  · rw [if_neg (by decide), if_neg (by decide), if_neg (by decide), if_pos rfl]
    show _ = endG b 29 (runF b [.who, .til] _ 17)
    unfold runF
    show _ = endG b 29 (if true = true then _ else _)
    rw [if_pos rfl]
    unfold runF
    show _ = endG b 29 (if decide (getN b 21 8 ≤ 1099511627776) = true then _ else .error 21)
    by_cases h2 : 1099511627776 < getN b 21 8
    · rw [if_pos h2, if_neg (show ¬ decide (getN b 21 8 ≤ 1099511627776) = true by rw [decide_eq_true_eq]; omega)]; rfl
    rw [if_neg h2, if_pos (show decide (getN b 21 8 ≤ 1099511627776) = true by rw [decide_eq_true_eq]; omega)]
    show _ = endQ b 29 0 ⟨4, seg b 1 16, 0, 0, 0, getN b 17 4, (min (getN b 21 8) 1099511627777 : Nat), []⟩
    rw [Nat.min_eq_left (by omega)]
  · rw [if_neg (by decide), if_neg (by decide), if_neg (by decide), if_neg (by decide)]
    rfl
theorem runF_drop {b : List UInt8} {F : List Fd} {j : Nat} {s : Rq × Nat} {p : Nat} (hj : j < F.length) : runF b (F.drop j) s p = (if (F[j]).ok (getN b p (F[j]).size) = true then runF b (F.drop (j + 1)) ((F[j]).put s (getN b p (F[j]).size)) (p + (F[j]).size) else .error p) := by
  rw [List.drop_eq_getElem_cons hj]
  rfl
theorem sumS_drop {F : List Fd} {j : Nat} (hj : j < F.length) : sumS (F.drop j) = (F[j]).size + sumS (F.drop (j + 1)) := by
  rw [List.drop_eq_getElem_cons hj]
  rfl
theorem fields_len (k : Nat) : (fieldsQ k).length ≤ 4 := by
  unfold fieldsQ
  repeat' split
  all_goals simp
theorem Fd.size_le (f : Fd) : 1 ≤ f.size ∧ f.size ≤ 8 := by cases f <;> simp [Fd.size]
theorem fdC_get (gT : Nat) : ∀ (F : List Fd) (j : Nat) (hj : j < F.length) (i : Nat), i < 2 → (fdC gT F)[j * 2 + i]? = (fdV gT F[j])[i]?
  | [], j, hj, _, _ => by simp at hj
  | f :: r, 0, _, i, hi => by
    unfold fdC
    rw [List.flatMap_cons, List.getElem?_append_left (by simp [fdV]; omega)]
    simp
  | f :: r, j + 1, hj, i, hi => by
    have ih := fdC_get gT r j (by simpa using hj) i hi
    unfold fdC at ih ⊢
    rw [List.flatMap_cons, List.getElem?_append_right (by simp [fdV]; omega)]
    have e : (j + 1) * 2 + i - (fdV gT f).length = j * 2 + i := by simp [fdV]; omega
    rw [e, ih]
    simp
end Go.Proofs.Ytkdmebcfedehiaa
/- wire.mayTell: may a reply be? -/
namespace Go.Proofs.Ytkdmebcfedehiaa
open Go.RowKit

theorem elI : El Try.prog 23 3 (.int .i64 0) 1 8 :=
  ⟨Try.underlying23, by
    obtain ⟨i, h1, h2, h3, h4⟩ := info_parts (show (Try.prog.info? 3).map (fun i => (i.zero, i.size, i.bytes)) = some (some (.int .i64 0), 1, 8) by kernel_rfl)
    exact ⟨i, h1, h2, h3, h4⟩, rfl, by decide⟩
def IOwn (w : World) (base : Nat) (a : Option Addr) (n c : Nat) (ns : List Int) : Prop := Own w base 3 1 a n c (IV ns)
theorem IOwn.len {w : World} {base : Nat} {a : Option Addr} {n c : Nat} {ns : List Int} (h : IOwn w base a n c ns) : ns.length = n := by
  have := h.1; simpa [IV] using this
theorem Lies.grown {w w' : World} {a : Option Addr} {xs : List Value} (h : Lies w a xs) (hg : w.grownBy w' none) : Lies w' a xs := by
  intro k hk
  obtain ⟨b, off, e, hc⟩ := h k hk
  exact ⟨b, off, e, (World.cell?_of_block (hg.block b (World.block_lt_of_cell? w _ hc) (by simp))).trans hc⟩
theorem IOwn.lies {w : World} {base : Nat} {a : Option Addr} {n c : Nat} {ns : List Int} (h : IOwn w base a n c ns) : Lies w a (IV ns) := by
  intro k hk
  obtain ⟨g, e, _, _, hc, _⟩ := Own.cell h k hk
  exact ⟨g, 0, e, by rw [Nat.zero_add, hc]⟩
/-- the numbers' places -/
theorem ints_cells {w : World} {a : Option Addr} {ns : List Int} (h : Lies w a (IV ns)) (h0 : 0 < ns.length) : ∃ b off, a = some ⟨b, off, none⟩ ∧ ∀ k, k < ns.length → w.cell? ⟨b, off + k, none⟩ = some (.int .i64 (ns.getD k 0)) := by
  have hl : (IV ns).length = ns.length := by simp [IV]
  obtain ⟨b, off, e, _⟩ := h 0 (by omega)
  refine ⟨b, off, e, fun k hk => ?_⟩
  obtain ⟨b', off', e', hc⟩ := h k (by omega)
  rw [e] at e'
  injection e' with e'
  injection e' with e1 e2
  subst e1; subst e2
  rw [hc]
  simp [IV, hk]
theorem bytes_cells {w : World} {a : Option Addr} {l : List UInt8} (h : BLies w a l) (h0 : 0 < l.length) : ∃ b off, a = some ⟨b, off, none⟩ ∧ ∀ k, k < l.length → w.cell? ⟨b, off + k, none⟩ = some (.int .u8 ((l.getD k 0).toNat : Int)) := by
  obtain ⟨b, off, e, _⟩ := h 0 h0
  refine ⟨b, off, e, fun k hk => ?_⟩
  obtain ⟨b', off', e', hc⟩ := h k hk
  rw [e] at e'
  injection e' with e'
  injection e' with e1 e2
  subst e1; subst e2
  rw [hc]
  simp [hk]
def okI (ns : List Int) (i : Nat) : Bool := decide (0 ≤ ns.getD i 0) && decide (ns.getD i 0 < 255) && (decide (i = 0) || decide (ns.getD (i - 1) 0 < ns.getD i 0))
theorem incr_all : ∀ (ns : List Int) (lo : Int), incr lo ns = true ↔ (∀ j, j < ns.length → ns.getD j 0 < 255 ∧ (j = 0 → lo < ns.getD 0 0) ∧ (0 < j → ns.getD (j - 1) 0 < ns.getD j 0))
  | [], lo => by simp [incr]
  | x :: r, lo => by
    rw [incr, Bool.and_eq_true, Bool.and_eq_true, decide_eq_true_eq, decide_eq_true_eq, incr_all r]
    constructor
    · rintro ⟨h1, h2, h3⟩ j hj
      match j with
      | 0 => exact ⟨h2, fun _ => h1, fun h => absurd h (by omega)⟩
      | j + 1 =>
        have hjr : j < r.length := by simpa using hj
        obtain ⟨k1, k2, k3⟩ := h3 j hjr
        refine ⟨by simpa using k1, fun h => absurd h (by omega), fun _ => ?_⟩
        match j, k2, k3 with
        | 0, k2, _ => have := k2 rfl; simpa using this
        | j + 1, _, k3 => have := k3 (by omega); simpa using this
    · intro h
      have h0 := h 0 (by simp)
      refine ⟨h0.2.1 rfl, by simpa using h0.1, fun j hj => ?_⟩
      have hj1 := h (j + 1) (by simpa using hj)
      refine ⟨by simpa using hj1.1, fun hj0 => ?_, fun hj0 => ?_⟩
      · subst hj0
        have := hj1.2.2 (by omega)
        simpa using this
      · have := hj1.2.2 (by omega)
        obtain ⟨m, rfl⟩ : ∃ m, j = m + 1 := ⟨j - 1, by omega⟩
        simpa using this
theorem incr_okI (ns : List Int) : incr (-1) ns = true ↔ ∀ i, i < ns.length → okI ns i = true := by
  unfold okI
  constructor
  · intro h i hi
    have hb := incr_bound ns (-1) h (ns.getD i 0) (by rw [List.getD_eq_getElem?_getD, List.getElem?_eq_getElem hi]; exact List.getElem_mem hi)
    have ha := (incr_all ns (-1)).1 h i hi
    rw [Bool.and_eq_true, Bool.and_eq_true, Bool.or_eq_true, decide_eq_true_eq, decide_eq_true_eq, decide_eq_true_eq, decide_eq_true_eq]
    refine ⟨⟨by omega, by omega⟩, ?_⟩
    rcases Nat.eq_zero_or_pos i with h | h
    · exact .inl h
    · exact .inr (ha.2.2 h)
  · intro h
    refine (incr_all ns (-1)).2 fun j hj => ?_
    have h1 := h j hj
    rw [Bool.and_eq_true, Bool.and_eq_true, Bool.or_eq_true, decide_eq_true_eq, decide_eq_true_eq, decide_eq_true_eq, decide_eq_true_eq] at h1
    refine ⟨h1.1.2, fun e => by subst e; omega, fun hj0 => ?_⟩
    rcases h1.2 with h | h
    · omega
    · exact h
theorem mayR_1 (ns : List Int) : mayR ⟨1, ns, []⟩ = incr (-1) ns := by simp [mayR]
theorem mayR_1b (ns : List Int) {bs : List UInt8} (h : 0 < bs.length) : mayR ⟨1, ns, bs⟩ = false := by
  unfold mayR
  rw [if_pos (.inr ⟨(by decide : (1 : Nat) ≠ 5), fun e => by (have e' : bs = [] := e); rw [e'] at h; simp at h⟩)]
theorem mayR_n {k : Nat} {ns : List Int} {bs : List UInt8} (hk : k ≠ 1) (h : 0 < ns.length) : mayR ⟨k, ns, bs⟩ = false := by
  unfold mayR
  rw [if_pos (.inl ⟨hk, fun e => by (have e' : ns = [] := e); rw [e'] at h; simp at h⟩)]
theorem mayR_b {k : Nat} {bs : List UInt8} (hk : k ≠ 1) (hk5 : k ≠ 5) (h : 0 < bs.length) : mayR ⟨k, [], bs⟩ = false := by
  unfold mayR
  rw [if_pos (.inr ⟨hk5, fun e => by (have e' : bs = [] := e); rw [e'] at h; simp at h⟩)]
theorem mayR_5 (bs : List UInt8) : mayR ⟨5, [], bs⟩ = (decide (1 ≤ bs.length) && decide (bs.length ≤ 131072)) := by simp [mayR]
theorem mayR_k {k : Nat} (hk : k ≠ 1) (hk5 : k ≠ 5) : mayR ⟨k, [], []⟩ = (decide (1 ≤ k) && decide (k ≤ 7)) := by simp [mayR, hk, hk5]

set_option maxRecDepth 100000 in
set_option maxHeartbeats 4000000 in
theorem mayTell_n (K : Int) (k n cn m cb : Nat) (an ab : Option Addr) (ns : List Int) (bs : List UInt8) (w : World) (hK : K = (k : Int)) (hns : Lies w an (IV ns)) (hn : ns.length = n) (hm : bs.length = m) (hnm : n ≤ maxLen) (hmm : m ≤ maxLen) :
    Calls Try.prog 22 #[.agg #[.int .u8 K, .slice an n cn, .slice ab m cb]] w fun e w' => e = .returned (.bool (mayR ⟨k, ns, bs⟩)) ∧ w.grownBy w' none := by
  unfold maxLen at hnm hmm
  have HNS := Lib.hid hns
  have HN := Lib.hid hn
  have HM := Lib.hid hm
  clear hns hn hm
  by_cases h1 : k = 1
  · subst h1
    have hK1 : K = 1 := hK
    subst hK1
    clear hK
    by_cases hm0 : 0 < m
    · rw [mayR_1b ns (by have := HM.out; omega)]
      have hd : decide (0 < m) = true := decide_eq_true hm0
      have hd2 : decide ((0 : Int) < (m : Int)) = true := decide_eq_true (by omega)
      go_enter Try.func22, Try.ntmps22
      go_wp2_with (refine wpList_boxed rfl rfl #[.int .u8 1, .slice an n cn, .slice ab m cb] rfl ?_; intro wb hsb hgb hrb; have c0 := Row.cell hrb 0; have c1 := Row.cell hrb 1; have c2 := Row.cell hrb 2; simp at c0 c1 c2; have HG := Lib.hid hgb; clear hsb hgb hrb)
      go_ret
      exact ⟨rfl, HG.out⟩
    · obtain rfl : m = 0 := by omega
      have hb := List.eq_nil_of_length_eq_zero HM.out
      subst hb
      rw [mayR_1]
      clear hm0
      go_enter Try.func22, Try.ntmps22
      go_wp2_with (refine wpList_boxed rfl rfl #[.int .u8 1, .slice an n cn, .slice ab 0 cb] rfl ?_; intro wb hsb hgb hrb; have c0 := Row.cell hrb 0; have c1 := Row.cell hrb 1; have c2 := Row.cell hrb 2; simp at c0 c1 c2; have HG := Lib.hid hgb; clear hsb hgb hrb)
      go_loopw [32] (fun vi wr => ∃ j : Nat, j ≤ n ∧ vi = .int .i64 (j : Int) ∧ wr = wb ∧ ∀ i, i < j → okI ns i = true) (fun vi _ => n - (intOf vi).toNat)
      case atStart => exact ⟨0, by omega, rfl, rfl, fun i h => absurd h (by omega)⟩
      case round =>
        obtain ⟨j, hj, rfl, rfl, hok⟩ := hrel
        have HOK := Lib.hid hok
        clear hok
        by_cases hlt : j < n
        · obtain ⟨b, off, rfl, hc⟩ := ints_cells (HNS.out.grown HG.out) (by have := HN.out; omega)
          obtain ⟨x, hx⟩ : ∃ x, x = ns.getD j 0 := ⟨_, rfl⟩
          obtain ⟨y, hy⟩ : ∃ y, y = ns.getD (j - 1) 0 := ⟨_, rfl⟩
          have hcj := hc j (by have := HN.out; omega)
          have hcp := hc (j - 1) (by have := HN.out; omega)
          rw [← hx] at hcj
          rw [← hy] at hcp
          have hoj : okI ns j = (decide (0 ≤ x) && decide (x < 255) && (decide (j = 0) || decide (y < x))) := by rw [hx, hy]; rfl
          have HOJ := Lib.hid hoj
          clear hc hoj hx hy
          by_cases hx1 : (decide (0 ≤ x) && decide (x < 255)) = true
          · by_cases hj0 : j = 0
            · subst hj0
              simp only [Nat.add_zero] at hcj
              go_wp2_with fail
              refine (number_n x _).mono ?_
              rintro e w' ⟨rfl, rfl⟩
              rw [hx1]
              go_wp2_with fail
              go_roundw
              case rel =>
                refine ⟨1, by omega, by first | rfl | go_num, by first | rfl | trivial, fun i hi => ?_⟩
                obtain rfl : i = 0 := by omega
                rw [HOJ.out, hx1]
                rfl
              case measure => simp [intOf]; omega
            · have hj1 : decide (0 < j) = true := decide_eq_true (by omega)
              have hj2 : decide ((0 : Int) < (j : Int)) = true := decide_eq_true (by omega)
              have hjm : ((j - 1 : Nat) : Int) = (j : Int) - 1 := by omega
              by_cases hxy : y < x
              · have hd : decide (x ≤ y) = false := decide_eq_false (by omega)
                go_wp2_with fail
                refine (number_n x _).mono ?_
                rintro e w' ⟨rfl, rfl⟩
                rw [hx1]
                go_wp2_with fail
                go_roundw
                case rel =>
                  refine ⟨j + 1, by omega, by first | rfl | go_num, by first | rfl | trivial, fun i hi => ?_⟩
                  by_cases e : i = j
                  · subst e
                    rw [HOJ.out, hx1, decide_eq_true hxy]
                    simp
                  · exact HOK.out i (by omega)
                case measure => simp [intOf]; omega
              · have hd : decide (x ≤ y) = true := decide_eq_true (by omega)
                go_wp2_with fail
                refine (number_n x _).mono ?_
                rintro e w' ⟨rfl, rfl⟩
                rw [hx1]
                go_wp2_with fail
                go_ret
                refine ⟨ret_bool ?_, HG.out⟩
                rw [eq_comm, ← Bool.not_eq_true, incr_okI]
                intro h
                have := h j (by have := HN.out; omega)
                rw [HOJ.out, decide_eq_false (show ¬ y < x by omega), decide_eq_false hj0] at this
                simp at this
          · go_wp2_with fail
            refine (number_n x _).mono ?_
            rintro e w' ⟨rfl, rfl⟩
            rw [Bool.not_eq_true] at hx1
            rw [hx1]
            go_wp2_with fail
            go_ret
            refine ⟨ret_bool ?_, HG.out⟩
            rw [eq_comm, ← Bool.not_eq_true, incr_okI]
            intro h
            have := h j (by have := HN.out; omega)
            rw [HOJ.out, hx1] at this
            simp at this
        · go_wp2_with fail
          go_ret
          refine ⟨ret_bool ?_, HG.out⟩
          rw [eq_comm, incr_okI]
          intro i hi
          exact HOK.out i (by have := HN.out; omega)
  · have hb1 : (K == 1) = false := by rw [beq_eq_false_iff_ne]; omega
    have hb2 : (K != 1) = true := by rw [bne_iff_ne]; omega
    by_cases hn0 : 0 < n
    · rw [mayR_n h1 (by have := HN.out; omega)]
      have hd : decide (0 < n) = true := decide_eq_true hn0
      have hd2 : decide ((0 : Int) < (n : Int)) = true := decide_eq_true (by omega)
      go_enter Try.func22, Try.ntmps22
      go_wp2_with (refine wpList_boxed rfl rfl #[.int .u8 K, .slice an n cn, .slice ab m cb] rfl ?_; intro wb hsb hgb hrb; have c0 := Row.cell hrb 0; have c1 := Row.cell hrb 1; have c2 := Row.cell hrb 2; simp at c0 c1 c2; have HG := Lib.hid hgb; clear hsb hgb hrb)
      go_ret
      exact ⟨rfl, HG.out⟩
    · obtain rfl : n = 0 := by omega
      have hb := List.eq_nil_of_length_eq_zero HN.out
      subst hb
      clear hn0
      by_cases h5 : k = 5
      · subst h5
        have hK5 : K = 5 := hK
        subst hK5
        clear hK hb1 hb2
        rw [mayR_5, HM.out]
        have hdm : decide (1 ≤ (m : Int)) = decide (1 ≤ m) := by congr 1; exact propext ⟨fun h => by omega, fun h => by omega⟩
        have hdm2 : decide ((m : Int) ≤ 131072) = decide (m ≤ 131072) := by congr 1; exact propext ⟨fun h => by omega, fun h => by omega⟩
        by_cases hm1 : 1 ≤ m
        · have e1 : decide (1 ≤ m) = true := decide_eq_true hm1
          rw [e1] at hdm
          rw [e1, Bool.true_and]
          by_cases hm2 : m ≤ 131072
          · have e2 : decide (m ≤ 131072) = true := decide_eq_true hm2
            rw [e2] at hdm2
            rw [e2]
            go_enter Try.func22, Try.ntmps22
            go_wp2_with (refine wpList_boxed rfl rfl #[.int .u8 5, .slice an 0 cn, .slice ab m cb] rfl ?_; intro wb hsb hgb hrb; have c0 := Row.cell hrb 0; have c1 := Row.cell hrb 1; have c2 := Row.cell hrb 2; simp at c0 c1 c2; have HG := Lib.hid hgb; clear hsb hgb hrb)
            go_ret
            exact ⟨rfl, HG.out⟩
          · have e2 : decide (m ≤ 131072) = false := decide_eq_false hm2
            rw [e2] at hdm2
            rw [e2]
            go_enter Try.func22, Try.ntmps22
            go_wp2_with (refine wpList_boxed rfl rfl #[.int .u8 5, .slice an 0 cn, .slice ab m cb] rfl ?_; intro wb hsb hgb hrb; have c0 := Row.cell hrb 0; have c1 := Row.cell hrb 1; have c2 := Row.cell hrb 2; simp at c0 c1 c2; have HG := Lib.hid hgb; clear hsb hgb hrb)
            go_ret
            exact ⟨rfl, HG.out⟩
        · have e1 : decide (1 ≤ m) = false := decide_eq_false hm1
          rw [e1] at hdm
          rw [e1, Bool.false_and]
          go_enter Try.func22, Try.ntmps22
          go_wp2_with (refine wpList_boxed rfl rfl #[.int .u8 5, .slice an 0 cn, .slice ab m cb] rfl ?_; intro wb hsb hgb hrb; have c0 := Row.cell hrb 0; have c1 := Row.cell hrb 1; have c2 := Row.cell hrb 2; simp at c0 c1 c2; have HG := Lib.hid hgb; clear hsb hgb hrb)
          go_ret
          exact ⟨rfl, HG.out⟩
      · have hc1 : (K == 5) = false := by rw [beq_eq_false_iff_ne]; omega
        have hc2 : (K != 5) = true := by rw [bne_iff_ne]; omega
        by_cases hm0 : 0 < m
        · rw [mayR_b h1 h5 (by have := HM.out; omega)]
          have hd : decide (0 < m) = true := decide_eq_true hm0
          have hd2 : decide ((0 : Int) < (m : Int)) = true := decide_eq_true (by omega)
          go_enter Try.func22, Try.ntmps22
          go_wp2_with (refine wpList_boxed rfl rfl #[.int .u8 K, .slice an 0 cn, .slice ab m cb] rfl ?_; intro wb hsb hgb hrb; have c0 := Row.cell hrb 0; have c1 := Row.cell hrb 1; have c2 := Row.cell hrb 2; simp at c0 c1 c2; have HG := Lib.hid hgb; clear hsb hgb hrb)
          go_ret
          exact ⟨rfl, HG.out⟩
        · obtain rfl : m = 0 := by omega
          have hb := List.eq_nil_of_length_eq_zero HM.out
          subst hb
          rw [mayR_k h1 h5]
          clear hm0
          have hk1 : decide (1 ≤ K) = decide (1 ≤ k) := by congr 1; exact propext ⟨fun h => by omega, fun h => by omega⟩
          have hk7 : decide (K ≤ 7) = decide (k ≤ 7) := by congr 1; exact propext ⟨fun h => by omega, fun h => by omega⟩
          by_cases hx1 : 1 ≤ k
          · have e1 : decide (1 ≤ k) = true := decide_eq_true hx1
            rw [e1] at hk1
            rw [e1, Bool.true_and, ← hk7]
            clear hk7 hK
            go_enter Try.func22, Try.ntmps22
            go_wp2_with (refine wpList_boxed rfl rfl #[.int .u8 K, .slice an 0 cn, .slice ab 0 cb] rfl ?_; intro wb hsb hgb hrb; have c0 := Row.cell hrb 0; have c1 := Row.cell hrb 1; have c2 := Row.cell hrb 2; simp at c0 c1 c2; have HG := Lib.hid hgb; clear hsb hgb hrb)
            go_ret
            exact ⟨rfl, HG.out⟩
          · have e1 : decide (1 ≤ k) = false := decide_eq_false hx1
            rw [e1] at hk1
            rw [e1, Bool.false_and]
            clear hk7 hK
            go_enter Try.func22, Try.ntmps22
            go_wp2_with (refine wpList_boxed rfl rfl #[.int .u8 K, .slice an 0 cn, .slice ab 0 cb] rfl ?_; intro wb hsb hgb hrb; have c0 := Row.cell hrb 0; have c1 := Row.cell hrb 1; have c2 := Row.cell hrb 2; simp at c0 c1 c2; have HG := Lib.hid hgb; clear hsb hgb hrb)
            go_ret
            exact ⟨rfl, HG.out⟩
end Go.Proofs.Ytkdmebcfedehiaa
/- append of made zeros to a row that the call owns. -/
namespace Go.Proofs.Ytkdmebcfedehiaa
open Go.RowKit

section
variable {P : Program}

theorem zero_cells_one (z : Value) (k : Nat) : Builtin.zeroCells #[z] k = (List.replicate k z).toArray := by
  apply Array.toList_inj.1
  simp [Builtin.zeroCells]
  apply List.ext_getElem
  · simp
  · intro i h1 h2
    simp [Nat.mod_one]

theorem firstCells_own (w : World) {e : TypeId} {base : Nat} {a : Option Addr} {n c : Nat} {xs : List Value} (hown : Own w base e 1 a n c xs) : (Builtin.firstCells 1 n (.slice a n c)).run P w.drew = .ok xs.toArray w.drew := by
  rcases hown.2 with ⟨rfl, rfl⟩ | ⟨g, cur, rfl, hbg, hg, hnc, hcm, hcs, htake⟩
  · have hx : xs = [] := List.eq_nil_of_length_eq_zero (by simpa using hown.1)
    subst hx
    cases a with
    | none => exact run_firstCells_none ..
    | some ad => exact run_firstCells_some (P := P) w.drew 1 0 ad 0 0 [] (by simp) (by simp)
  · exact run_firstCells_some (P := P) w.drew 1 n ⟨g, 0, none⟩ n c xs (by simpa using hown.1) (by
      intro j u hu
      have hadd : (⟨g, 0, none⟩ : Addr).add j = ⟨g, j, none⟩ := by unfold Addr.add; split <;> simp_all
      obtain ⟨hj, rfl⟩ := List.getElem?_eq_some_iff.1 hu
      obtain ⟨g', e1, _, _, hc, _⟩ := hown.cell j hj
      obtain rfl : g = g' := by simpa using e1
      rw [hadd]; exact hc)

theorem run_appz (w : World) {t tn ty e : TypeId} {z : Value} {bytes : Nat} (H : El P t e z 1 bytes) (hz1 : z.cells = #[z]) (ho1 : z.oneCell' = true) {kn : IntKind} (htn : P.underlying tn = some (.int kn)) {base : Nat} {a : Option Addr} {n c : Nat} {xs : List Value} (hown : Own w base e 1 a n c xs)
    (k : Nat) (hk : 0 < k) (h63 : n + k ≤ maxLen) (hbytes : (n + k) * bytes ≤ 140737488355328) (hbase : base ≤ w.heap.size) (kq : IntKind) :
    ∃ g c' w1, (Builtin.append_ #[t, tn] ty #[.slice a n c, .int kq k]).run P w = .ok (.slice (some ⟨g, 0, none⟩) (n + k) c') w1 ∧ Own w1 base e 1 (some ⟨g, 0, none⟩) (n + k) c' (xs ++ List.replicate k z) ∧ GrewP w w1 a c (some ⟨g, 0, none⟩) c' := by
  obtain ⟨ht, ⟨i, hi, hz, hs1, rfl⟩, hzs, hsz⟩ := H
  have hsmall : n + k ≤ 9223372036854775807 := by simp only [maxLen] at h63; omega
  have hxl : xs.length = n := by simpa using hown.1
  have hlen : (xs ++ List.replicate k z).length = (n + k) * 1 := by simp [hxl]
  have hkb : k * i.bytes ≤ 281474976710656 := by have : k * i.bytes ≤ (n + k) * i.bytes := Nat.mul_le_mul_right _ (by omega); omega
  by_cases hroom : n + k ≤ c
  · rcases hown.2 with ⟨rfl, rfl⟩ | ⟨g, cur, rfl, hbg, hg, hnc, hcm, hcs, htake⟩
    · omega
    · have hrl : (List.replicate k z).length = k := by simp
      have hst := run_storeCells_at (P := P) g n e (List.replicate k z) 0 cur w hg (by simp; omega) (by intro v hv; rw [List.eq_of_mem_replicate hv]; exact ho1)
      simp only [Nat.add_zero, hrl] at hst
      have hw : IntKind.i64.wrap (k : Int) = k := by rw [IntKind.wrap_i64]; omega
      have hneg : ¬ ((k : Int) < 0) := by omega
      have hadd : (⟨g, 0, none⟩ : Addr).add n = ⟨g, n, none⟩ := by unfold Addr.add; split <;> simp_all
      have h48i : ¬ (281474976710656 < (k : Int) * (i.bytes : Int)) := by rw [← Int.natCast_mul]; omega
      have hk0 : k ≠ 0 := by omega
      have hr : (Builtin.append_ #[t, tn] ty #[.slice (some ⟨g, 0, none⟩) n c, .int kq k]).run P w = .ok (.slice (some ⟨g, 0, none⟩) (n + k) c) (w.setRow g (cur.toList.take n ++ List.replicate k z ++ cur.toList.drop (n + k)).toArray) := by
        simp [Builtin.append_, run_underlying ht, run_underlying htn, sizeOf, typeInfo, zeroValue, hi, hz, hz1, hs1, asInt, asIntOf, hw, hneg, h48i, hroom, hk0, zero_cells_one, hadd, hst]
      refine ⟨_, _, _, hr, ⟨hlen, .inr ⟨g, _, rfl, hbg, setRow_heap w g cur _ e _ hg, hroom, hcm, ?_, ?_⟩⟩, .inl ⟨g, rfl, rfl, by omega, rfl, ⟨rfl, rfl, rfl, by simp, fun k _ hk => setRow_other w g k _ (fun e => hk (by simp [e]))⟩⟩⟩
      · simp
        omega
      · have ht' : List.take n cur.toList = xs := by rw [← htake, Nat.mul_one]
        rw [ht', ← hlen]
        exact List.take_left
  · have hr := Lib.run_append_grow_zeros (P := P) w t tn ty e i z kq kn ht htn hi hz a n c xs (by rw [hs1]; exact firstCells_own w hown) k hk (by omega) (by omega) (by omega) hkb (growslice_fits (by omega) hbytes)
    have hge := grownCap_ge w (n + k) c e
    have hcm : grownCap w (n + k) c e ≤ maxLen := grownCap_le_maxLen w (n + k) c e h63
    refine ⟨_, _, _, hr, ⟨hlen, .inr ⟨w.heap.size, _, rfl, hbase, heap_alloc_new w.drew _, hge, hcm, ?_, ?_⟩⟩, .inr ⟨_, rfl, Nat.le_refl _, ⟨rfl, rfl, rfl, by simp, fun k hk _ => Below.heap_alloc w.drew _ k hk⟩⟩⟩
    · rw [hz1, zero_cells_one, zero_cells_one]
      simp [hxl]
      omega
    · rw [hz1, zero_cells_one, zero_cells_one]
      simp only [Array.toList_append, ← hlen]
      exact List.take_left

end

end Go.Proofs.Ytkdmebcfedehiaa
/- strongroomkit.KeptBytes, OverBytes. -/
namespace Go.Proofs.Ytkdmebcfedehiaa
open Go.RowKit

set_option maxRecDepth 100000 in
set_option maxHeartbeats 1000000 in
theorem kept_any (a a' : Option Addr) (c c' : Nat) (lf l : List UInt8) (w : World) (hf : BLies w a lf) (hl : BLies w a' l) (hn : l.length ≤ 4000000000) (hm : lf.length ≤ maxLen) :
    Calls Try.prog 42 #[.slice a lf.length c, .slice a' l.length c'] w fun e w' => e = .returned (.bool (decide (lf = lent l))) ∧ w.grownBy w' none := by
  have HF : Hid (BLies w a lf) := hf
  have HL : Hid (BLies w a' l) := hl
  have e70 : l.length + 70 = (lent l).length := (lent_length l).symm
  have HE : Hid (l.length + 70 = (lent l).length) := e70
  clear hf hl e70
  go_enter Try.func42, Try.ntmps42
  go_wp2_with fail
  refine (lent_any _ _ _ _ HL.out hn).mono ?_
  rintro e w1 ⟨g, cap, rfl, hown, hg⟩
  go_wp2_with fail
  rw [HE.out]
  refine (same_any _ _ _ _ _ _ _ (HF.out.grown hg) hown.lies hm).mono ?_
  rintro e w2 ⟨rfl, n, rfl⟩
  go_wp2_with fail
  go_ret
  exact ⟨rfl, grownBy_trans hg (grownBy_drewN _ _ _)⟩

/-- what OverBytes leaves -/
def over (n : Nat) : List UInt8 := (List.range n).map fun (i : Nat) => mrk 7 ((i : Int) + 3)
theorem over_succ (n : Nat) : over (n + 1) = over n ++ [mrk 7 ((n : Int) + 3)] := by simp [over, List.range_succ]
theorem over_length (n : Nat) : (over n).length = n := by simp [over]

theorem over_step {k : Nat} {l : List UInt8} (h : k < l.length) : ((over k ++ l.drop k).map bval).set k (.int .u8 ((mrk 7 ((k : Int) + 3)).toNat : Int)) = (over (k + 1) ++ l.drop (k + 1)).map bval := by
  have e1 : l.drop k = l[k] :: l.drop (k + 1) := by simp
  rw [e1, over_succ, List.map_append, List.map_cons, List.set_append_right _ _ (by simp [over_length])]
  simp [over_length, bval]

set_option maxRecDepth 100000 in
set_option maxHeartbeats 1000000 in
theorem over_any (base g c : Nat) (l : List UInt8) (w : World) (ho : BOwn w base (some ⟨g, 0, none⟩) l.length c l) (hn : l.length ≤ 4000000100) :
    Calls Try.prog 44 #[.slice (some ⟨g, 0, none⟩) l.length c] w fun e w' => e = .returned (.tuple #[]) ∧ BOwn w' base (some ⟨g, 0, none⟩) l.length c (over l.length) ∧ w.grownBy w' (some g) := by
  go_enter Try.func44, Try.ntmps44
  go_wp2
  go_loopw [2] (fun i wr => ∃ k : Nat, k ≤ l.length ∧ i = .int .i64 k ∧ BOwn wr base (some ⟨g, 0, none⟩) l.length c (over k ++ l.drop k) ∧ w.grownBy wr (some g)) (fun i _ => l.length - (intOf i).toNat)
  case atStart => exact ⟨0, by omega, rfl, by simpa [over] using ho, World.grownBy.refl _ _⟩
  case round =>
    obtain ⟨k, hk, rfl, hown, hg⟩ := hrel
    by_cases hlt : k < l.length
    · obtain ⟨g', e1, _, _, hc, hf⟩ := Own.cell hown k (by simp [over_length]; omega)
      obtain rfl : g = g' := by simpa using e1
      clear e1
      have hset := Own.set hown k (by simp [over_length]; omega) (.int .u8 ((mrk 7 ((k : Int) + 3)).toNat : Int))
      rw [over_step hlt] at hset
      obtain ⟨u0, hu0⟩ : ∃ u0, wr.cell? ⟨g, k, none⟩ = some u0 := ⟨_, hc⟩
      clear hc
      go_wp2_with (go_at_call 46; refine (mark_any _ _ _ (by omega) (by omega)).mono ?_; rintro e w' ⟨rfl, rfl⟩)
      go_roundw
      case rel => exact ⟨k + 1, by omega, by go_num, hset, grownBy_trans hg (grownBy_setCell _ _ _ _)⟩
      case measure => simp [intOf]; omega
    · obtain rfl : k = l.length := by omega
      go_wp2
      go_end0
      exact ⟨rfl, by simpa using hown, hg⟩

/-- what LentBytes answered is as it was -/
theorem kept_yes (a a' : Option Addr) (c c' n m : Nat) (l : List UInt8) (w : World) (hf : BLies w a (lent l)) (hl : BLies w a' l) (hn : l.length = n) (hm : n + 70 = m) (hle : n ≤ 4000000000) :
    Calls Try.prog 42 #[.slice a m c, .slice a' n c'] w fun e w' => e = .returned (.bool true) ∧ w.grownBy w' none := by
  subst hn; subst hm
  rw [← lent_length]
  exact (kept_any a a' c c' (lent l) l w hf hl hle (by rw [lent_length]; unfold maxLen; omega)).mono fun e w' ⟨h1, h2⟩ => ⟨by rw [h1]; simp, h2⟩
theorem over_n (base g c n : Nat) (l : List UInt8) (w : World) (ho : BOwn w base (some ⟨g, 0, none⟩) n c l) (hn : n ≤ 4000000100) :
    Calls Try.prog 44 #[.slice (some ⟨g, 0, none⟩) n c] w fun e w' => e = .returned (.tuple #[]) ∧ BOwn w' base (some ⟨g, 0, none⟩) n c (over n) ∧ w.grownBy w' (some g) := by
  obtain rfl := ho.len
  exact over_any base g c l w ho hn

end Go.Proofs.Ytkdmebcfedehiaa
/- What ApartBytes leans on: slices as values, lists of slices that own their rows, and what each loop's round does to them. No walk. -/
namespace Go.Proofs.Ytkdmebcfedehiaa
open Go.RowKit

/-- a slice's value -/
structure Sl where
  a : Option Addr
  n : Nat
  c : Nat
def Sl.val (s : Sl) : Value := .slice s.a s.n s.c
/-- the block in which it has room -/
def Sl.blk (s : Sl) : Option Nat := if s.c = 0 then none else s.a.map (·.block)

/-- the marks of list k -/
def mkl (k n : Nat) : List UInt8 := (List.range n).map fun (i : Nat) => mrk ((k : Int) + 1) (i : Int)
theorem mkl_succ (k n : Nat) : mkl k (n + 1) = mkl k n ++ [mrk ((k : Int) + 1) (n : Int)] := by simp [mkl, List.range_succ]
theorem mkl_length (k n : Nat) : (mkl k n).length = n := by simp [mkl]
theorem mkl_take (k n m : Nat) (h : m ≤ n) : (mkl k n).take m = mkl k m := by
  simp [mkl, ← List.map_take, List.take_range, Nat.min_eq_left h]
/-- a slice of slices of bytes that the call owns -/
def SOwn (w : World) (base : Nat) (a : Option Addr) (n c : Nat) (L : List Sl) : Prop := Own w base 24 1 a n c (L.map Sl.val)

theorem SOwn.len {w : World} {base : Nat} {a : Option Addr} {n c : Nat} {L : List Sl} (h : SOwn w base a n c L) : L.length = n := by
  have := h.1; simpa using this

theorem elS : El Try.prog 52 24 (.slice none 0 0) 1 24 :=
  ⟨Try.underlying52, info_parts (by kernel_rfl), rfl, by decide⟩

/-- rows of unlike element types lie in unlike blocks -/
theorem own_ne {w : World} {base base' : Nat} {e e' size size' : Nat} {g g' n n' c c' : Nat} {xs ys : List Value} (h : Own w base e size (some ⟨g, 0, none⟩) n c xs) (h' : Own w base' e' size' (some ⟨g', 0, none⟩) n' c' ys) (hc : 0 < c) (hc' : 0 < c') (hne : e ≠ e') : g ≠ g' := by
  rcases h.2 with ⟨_, h0⟩ | ⟨_, cur, ha, _, hh, _⟩
  · omega
  rcases h'.2 with ⟨_, h0⟩ | ⟨_, cur', ha', _, hh', _⟩
  · omega
  rintro rfl
  injection ha with ha; injection ha with ha1
  injection ha' with ha'; injection ha' with ha'1
  subst ha1; subst ha'1
  rw [hh] at hh'
  injection hh' with hh'
  injection hh' with _ h2 _
  exact hne h2

/-- a store into a row of bytes leaves a row of another type -/
theorem Own.setOther {w : World} {base base' : Nat} {e e' size size' : Nat} {a : Option Addr} {g n n' c c' : Nat} {xs ys : List Value} (h : Own w base e size a n c xs) (h' : Own w base' e' size' (some ⟨g, 0, none⟩) n' c' ys) (hc' : 0 < c') (hne : e ≠ e') (k : Nat) (u : Value) : Own (w.setCell ⟨g, k, none⟩ u) base e size a n c xs := by
  by_cases hc : 0 < c
  · obtain ⟨g2, rfl, _, _⟩ := h.block hc
    have hn := own_ne h h' hc hc' hne
    exact h.kept fun g3 e3 _ => Below.heap_setCell _ _ _ _ (by injection e3 with e3; injection e3 with e3; subst e3; exact hn)
  · refine ⟨h.1, .inl ?_⟩
    rcases h.2 with h0 | ⟨_, _, _, _, _, hn, _⟩
    · exact h0
    · exact ⟨by omega, by omega⟩

/-- the lists lie apart -/
def Distinct (L : List Sl) : Prop := ∀ i j (hi : i < L.length) (hj : j < L.length), i ≠ j → ∀ g, (L[i]).blk = some g → (L[j]).blk ≠ some g

theorem BOwn.grown {w w' : World} {base : Nat} {a : Option Addr} {n c : Nat} {l : List UInt8} (h : BOwn w base a n c l) (hg : w.grownBy w' none) : BOwn w' base a n c l :=
  Own.kept h fun g _ hl => hg.block g hl (by simp)
theorem BOwn.drewN {w : World} {base : Nat} {a : Option Addr} {n c : Nat} {l : List UInt8} (h : BOwn w base a n c l) (m : Nat) : BOwn (w.drewN m) base a n c l := h
theorem BOwn.mono {w : World} {base base' : Nat} {a : Option Addr} {n c : Nat} {l : List UInt8} (h : BOwn w base a n c l) (hb : base' ≤ base) : BOwn w base' a n c l := Own.mono h hb

/-- phase 1: the lists below k bear their marks, list k the first i of them -/
structure St1 (base : Nat) (als : Option Addr) (cls : Nat) (L : List Sl) (w : World) (k i : Nat) (wr : World) : Prop where
  outer : SOwn wr base als L.length cls L
  inner : ∀ j (hj : j < L.length), ∃ l, BOwn wr base (L[j]).a (L[j]).n (L[j]).c l ∧ (j < k → l = mkl j (L[j]).n) ∧ (j = k → l.take i = mkl k i)
  below : Below base w wr

theorem St1.drewN {base : Nat} {als : Option Addr} {cls : Nat} {L : List Sl} {w : World} {k i : Nat} {wr : World} (h : St1 base als cls L w k i wr) (n : Nat) : St1 base als cls L w k i (wr.drewN n) :=
  ⟨h.outer, h.inner, h.below.trans ⟨rfl, rfl, rfl, Nat.le_refl _, fun _ _ => rfl⟩⟩
theorem St1.drew {base : Nat} {als : Option Addr} {cls : Nat} {L : List Sl} {w : World} {k i : Nat} {wr : World} (h : St1 base als cls L w k i wr) : St1 base als cls L w k i wr.drew := h.drewN 1

theorem St1.next {base : Nat} {als : Option Addr} {cls : Nat} {L : List Sl} {w : World} {k i : Nat} {wr : World} (h : St1 base als cls L w k i wr) (hk : k < L.length) (hi : i = (L[k]).n) : St1 base als cls L w (k + 1) 0 wr := by
  refine ⟨h.outer, fun j hj => ?_, h.below⟩
  obtain ⟨l, ho, h1, h2⟩ := h.inner j hj
  refine ⟨l, ho, fun hjk => ?_, fun _ => by simp [mkl]⟩
  by_cases e : j = k
  · subst e
    have := h2 rfl
    rw [hi, List.take_of_length_le (by rw [ho.len]; omega)] at this
    exact this
  · exact h1 (by omega)

theorem take_set_succ {l : List UInt8} {i : Nat} (hi : i < l.length) (x : UInt8) : (l.set i x).take (i + 1) = l.take i ++ [x] := by
  rw [List.take_succ_eq_append_getElem (by simpa using hi), List.take_set_of_le (Nat.le_refl _)]
  simp

theorem St1.store {base : Nat} {als : Option Addr} {cls : Nat} {L : List Sl} {w : World} {k i : Nat} {wr : World} (h : St1 base als cls L w k i wr) (hd : Distinct L) (hk : k < L.length) (hi : i < (L[k]).n) :
    ∃ g, (L[k]).a = some ⟨g, 0, none⟩ ∧ (∃ u, wr.cell? ⟨g, i, none⟩ = some u) ∧ wr.frozen? ⟨g, i, none⟩ = false ∧ St1 base als cls L w k (i + 1) (wr.setCell ⟨g, i, none⟩ (.int .u8 ((mrk ((k : Int) + 1) (i : Int)).toNat : Int))) := by
  obtain ⟨l, ho, _, h2⟩ := h.inner k hk
  have hlen := ho.len
  obtain ⟨g, ha, hb, hlt, hc, hf⟩ := Own.cell ho i (by simp; omega)
  have hpos : 0 < (L[k]).c := by
    rcases ho.2 with ⟨h0, _⟩ | ⟨_, _, _, _, _, hn, _⟩ <;> omega
  have hblk : (L[k]).blk = some g := by simp [Sl.blk, Nat.ne_of_gt hpos, ha]
  refine ⟨g, ha, ⟨_, hc⟩, hf, ?_, fun j hj => ?_, h.below.trans ((Below.refl base wr).setCell (p := ⟨g, i, none⟩) hb _)⟩
  · exact Own.setOther h.outer (by rw [ha] at ho; exact ho) hpos (by decide) _ _
  · by_cases e : j = k
    · subst e
      refine ⟨l.set i (mrk ((j : Int) + 1) (i : Int)), ?_, fun hj' => by omega, fun _ => ?_⟩
      · rw [ha] at ho ⊢
        have := Own.set ho i (by simp; omega) (.int .u8 ((mrk ((j : Int) + 1) (i : Int)).toNat : Int))
        unfold BOwn
        rw [List.map_set]
        exact this
      · rw [take_set_succ (by omega), h2 rfl, mkl_succ]
    · obtain ⟨lj, hoj, h1j, _⟩ := h.inner j hj
      refine ⟨lj, ?_, h1j, fun e' => absurd e' e⟩
      refine hoj.kept' fun hcj g' hg' _ => Below.heap_setCell _ _ _ _ ?_
      rintro rfl
      exact hd j k hj hk e g' (by simp [Sl.blk, Nat.ne_of_gt hcj, hg']) hblk

/-- what is owned stays owned where another block is written -/
theorem Own.grownNe {w w' : World} {base : Nat} {e : TypeId} {size : Nat} {a : Option Addr} {n c : Nat} {xs : List Value} {row : Option Nat} (h : Own w base e size a n c xs) (hg : w.grownBy w' row) (hne : ∀ g, 0 < c → a = some ⟨g, 0, none⟩ → row ≠ some g) : Own w' base e size a n c xs :=
  h.kept' fun hc g ha hl => hg.block g hl (fun e => hne g hc ha e.symm)
theorem Own.grownNone {w w' : World} {base : Nat} {e : TypeId} {size : Nat} {a : Option Addr} {n c : Nat} {xs : List Value} (h : Own w base e size a n c xs) (hg : w.grownBy w' none) : Own w' base e size a n c xs :=
  h.grownNe hg (by simp)
/-- an append to a row of another type -/
theorem Own.grewOther {w w' : World} {base base' : Nat} {e e' size size' : Nat} {a a' a2 : Option Addr} {n n' c c' c2 : Nat} {xs ys : List Value} (h : Own w base e size a n c xs) (h' : Own w base' e' size' a' n' c' ys) (hg : GrewP w w' a' c' a2 c2) (hne : e ≠ e') : Own w' base e size a n c xs := by
  rcases hg with ⟨g, rfl, rfl, hc', _, hg⟩ | ⟨g, _, _, hg⟩
  · refine h.grownNe hg fun g' hc ha => ?_
    subst ha
    have := own_ne h h' hc hc' hne
    intro e; injection e with e; exact this e.symm
  · exact h.grownNone hg

theorem Sl.blk_some {s : Sl} {g : Nat} (hc : 0 < s.c) (ha : s.a = some ⟨g, 0, none⟩) : s.blk = some g := by
  simp [Sl.blk, Nat.ne_of_gt hc, ha]
theorem BOwn.blk {w : World} {base : Nat} {s : Sl} {l : List UInt8} (h : BOwn w base s.a s.n s.c l) {g : Nat} (hb : s.blk = some g) : 0 < s.c ∧ s.a = some ⟨g, 0, none⟩ := by
  unfold Sl.blk at hb
  split at hb
  · cases hb
  · rename_i hc
    obtain ⟨g', ha, _, _⟩ := Own.block h (by omega)
    rw [ha] at hb
    simp at hb
    subst hb
    exact ⟨by omega, ha⟩

/-- phase 2: to the copies below k the marks behind their lists have been appended -/
structure St2 (base : Nat) (als : Option Addr) (cls : Nat) (L : List Sl) (w : World) (B : Nat) (k : Nat) (ags : Option Addr) (cgs : Nat) (G : List Sl) (wr : World) : Prop where
  outer : SOwn wr base als L.length cls L
  gs : SOwn wr B ags k cgs G
  lists : ∀ j (hj : j < L.length), BOwn wr base (L[j]).a (L[j]).n (L[j]).c (mkl j (L[j]).n)
  done : ∀ j (hj : j < L.length) (hG : j < G.length), (G[j]).n = (L[j]).n + 70 ∧ BOwn wr base (G[j]).a (G[j]).n (G[j]).c (mkl j ((L[j]).n + 70)) ∧ ∀ g, (G[j]).blk = some g → (L[j]).blk = some g ∨ B ≤ g
  below : Below base w wr
  size : B ≤ wr.heap.size
  baseB : base ≤ B
  oldO : ∀ g, 0 < cls → als = some ⟨g, 0, none⟩ → g < B
  oldL : ∀ j (hj : j < L.length) g, (L[j]).blk = some g → g < B

theorem St2.start {base : Nat} {als : Option Addr} {cls : Nat} {L : List Sl} {w wr : World} (h : St1 base als cls L w L.length 0 wr) (hb : base ≤ w.heap.size) : St2 base als cls L w wr.heap.size 0 none 0 [] wr where
  outer := h.outer
  gs := Own.nil _ _ _ _ _
  lists := fun j hj => by
    obtain ⟨l, ho, h1, _⟩ := h.inner j hj
    rw [h1 hj] at ho
    exact ho
  done := fun j hj hG => absurd hG (by simp)
  below := h.below
  size := Nat.le_refl _
  baseB := Nat.le_trans hb h.below.size
  oldO := fun g hc ha => by
    obtain ⟨g', ha', _, hlt⟩ := Own.block h.outer hc
    rw [ha] at ha'
    injection ha' with ha'; injection ha' with ha'
    omega
  oldL := fun j hj g hg => by
    obtain ⟨l, ho, _, _⟩ := h.inner j hj
    obtain ⟨hc, ha⟩ := ho.blk hg
    obtain ⟨g', ha', _, hlt⟩ := Own.block ho hc
    rw [ha] at ha'
    injection ha' with ha'; injection ha' with ha'
    omega

/-- the inner loop of phase 2 -/
structure In2 (base : Nat) (L : List Sl) (k : Nat) (hk : k < L.length) (wk : World) (i : Nat) (a : Option Addr) (c : Nat) (wr : World) : Prop where
  row : BOwn wr base a ((L[k]).n + i) c (mkl k ((L[k]).n + i))
  frame : wk.grownBy wr (L[k]).blk
  place : ∀ g, 0 < c → a = some ⟨g, 0, none⟩ → (L[k]).blk = some g ∨ wk.heap.size ≤ g
  list : BOwn wr base (L[k]).a (L[k]).n (L[k]).c (mkl k (L[k]).n)

theorem In2.start {base : Nat} {als : Option Addr} {cls : Nat} {L : List Sl} {w : World} {B k : Nat} {ags : Option Addr} {cgs : Nat} {G : List Sl} {wr : World} (h : St2 base als cls L w B k ags cgs G wr) (hk : k < L.length) : In2 base L k hk wr 0 (L[k]).a (L[k]).c wr :=
  ⟨h.lists k hk, World.grownBy.refl _ _, fun g hc ha => .inl (Sl.blk_some hc ha), h.lists k hk⟩

theorem own_prefix {w w1 : World} {base : Nat} {e : TypeId} {g n n' c c' : Nat} {xs ys : List Value} (h : Own w base e 1 (some ⟨g, 0, none⟩) n c xs) (hc : 0 < c) (h1 : Own w1 base e 1 (some ⟨g, 0, none⟩) n' c' ys) (hcc : c' = c) (hx : ys.take n = xs) (hn : n ≤ n') : Own w1 base e 1 (some ⟨g, 0, none⟩) n c xs := by
  subst hcc
  refine ⟨h.1, .inr ?_⟩
  rcases h.2 with ⟨_, h0⟩ | ⟨g1, cur, ha, hb, hh, hnc, hm, hs, ht⟩
  · omega
  rcases h1.2 with ⟨_, h0⟩ | ⟨g2, cur2, ha2, hb2, hh2, hnc2, hm2, hs2, ht2⟩
  · omega
  refine ⟨g2, cur2, ha2, hb2, hh2, hnc, hm, hs2, ?_⟩
  rw [← hx, ← ht2, List.take_take]
  congr 1
  omega

theorem own_cap {w : World} {base base' : Nat} {e : TypeId} {g n n' c c' : Nat} {xs ys : List Value} (h : Own w base e 1 (some ⟨g, 0, none⟩) n c xs) (h' : Own w base' e 1 (some ⟨g, 0, none⟩) n' c' ys) (hc : 0 < c) (hc' : 0 < c') : c = c' := by
  rcases h.2 with ⟨_, h0⟩ | ⟨g1, cur, ha, hb, hh, hnc, hm, hs, ht⟩
  · omega
  rcases h'.2 with ⟨_, h0⟩ | ⟨g2, cur2, ha2, hb2, hh2, hnc2, hm2, hs2, ht2⟩
  · omega
  injection ha with ha; injection ha with ha
  injection ha2 with ha2; injection ha2 with ha2
  subst ha; subst ha2
  rw [hh] at hh2
  injection hh2 with hh2
  injection hh2 with h1 _ _
  subst h1
  omega

theorem In2.next {base : Nat} {L : List Sl} {k : Nat} {hk : k < L.length} {wk : World} {i : Nat} {a : Option Addr} {c : Nat} {wr : World} (h : In2 base L k hk wk i a c wr) {g c' : Nat} {w1 : World}
    (ho : Own w1 base 5 1 (some ⟨g, 0, none⟩) ((L[k]).n + i + 1) c' ((mkl k ((L[k]).n + i)).map bval ++ [.int .u8 ((mrk ((k : Int) + 1) (((L[k]).n : Int) + (i : Int))).toNat : Int)])) (hg : GrewP wr w1 a c (some ⟨g, 0, none⟩) c') : In2 base L k hk wk (i + 1) (some ⟨g, 0, none⟩) c' w1 := by
  have hrow : BOwn w1 base (some ⟨g, 0, none⟩) ((L[k]).n + (i + 1)) c' (mkl k ((L[k]).n + (i + 1))) := by
    unfold BOwn
    rw [← Nat.add_assoc, mkl_succ, List.map_append]
    have e : (((L[k]).n + i : Nat) : Int) = ((L[k]).n : Int) + (i : Int) := by omega
    rw [e]
    exact ho
  rcases hg with ⟨g1, e1, rfl, hc, hcc, hg⟩ | ⟨g1, e1, hs, hg⟩
  · injection e1 with e1; injection e1 with e1
    subst e1
    have hpl := h.place g hc rfl
    refine ⟨hrow, ?_, fun g2 _ e2 => ?_, ?_⟩
    · rcases hpl with hb | hb
      · rw [hb]; exact grownBy_trans (by have := h.frame; rwa [hb] at this) hg
      · exact ⟨hg.os.trans h.frame.os, hg.tape.trans h.frame.tape, hg.output.trans h.frame.output, Nat.le_trans h.frame.size hg.size, fun b hb1 hb2 => (hg.block b (Nat.lt_of_lt_of_le hb1 h.frame.size) (by simp; omega)).trans (h.frame.block b hb1 hb2)⟩
    · injection e2 with e2; injection e2 with e2
      subst e2
      exact hpl
    · by_cases hb : (L[k]).blk = some g
      · obtain ⟨hc2, ha2⟩ := h.list.blk hb
        have hl := h.list
        rw [ha2] at hl ⊢
        have hcap := own_cap h.row hl hc hc2
        refine own_prefix hl hc2 hrow (by omega) ?_ (by omega)
        rw [← List.map_take, mkl_take _ _ _ (by omega)]
      · refine Own.grownNe h.list hg fun g2 hc2 ha2 e2 => ?_
        injection e2 with e2
        subst e2
        exact hb (Sl.blk_some hc2 ha2)
  · injection e1 with e1; injection e1 with e1
    subst e1
    refine ⟨hrow, grownBy_trans h.frame (grownBy_some hg _), fun g2 _ e2 => ?_, Own.grownNone h.list hg⟩
    injection e2 with e2; injection e2 with e2
    subst e2
    exact .inr (Nat.le_trans h.frame.size hs)

theorem St2.outerIn {base : Nat} {als : Option Addr} {cls : Nat} {L : List Sl} {w : World} {B k : Nat} {ags : Option Addr} {cgs : Nat} {G : List Sl} {wk wr : World} (h : St2 base als cls L w B k ags cgs G wk) (hk : k < L.length) (hf : wk.grownBy wr (L[k]).blk) : SOwn wr base als L.length cls L := by
  refine Own.grownNe h.outer hf fun g1 hc1 ha1 hb1 => ?_
  obtain ⟨hc2, ha2⟩ := (h.lists k hk).blk hb1
  have h3 := h.outer
  have h4 := h.lists k hk
  rw [ha1] at h3
  rw [ha2] at h4
  exact own_ne h3 h4 hc1 hc2 (by decide) rfl

/-- the copy is laid among the others -/
theorem St2.next {base : Nat} {als : Option Addr} {cls : Nat} {L : List Sl} {w : World} {B k : Nat} {ags : Option Addr} {cgs : Nat} {G : List Sl} {wk wr w1 : World} (h : St2 base als cls L w B k ags cgs G wk) (hk : k < L.length) (hd : Distinct L) {a : Option Addr} {c : Nat} (h2 : In2 base L k hk wk 70 a c wr)
    {g cg : Nat} (ho : Own w1 B 24 1 (some ⟨g, 0, none⟩) (k + 1) cg (G.map Sl.val ++ [.slice a ((L[k]).n + 70) c])) (hg : GrewP wr w1 ags cgs (some ⟨g, 0, none⟩) cg) : St2 base als cls L w B (k + 1) (some ⟨g, 0, none⟩) cg (G ++ [⟨a, (L[k]).n + 70, c⟩]) w1 := by
  have hGl : G.length = k := h.gs.len
  have gs' : SOwn wr B ags k cgs G := by
    refine Own.grownNe h.gs h2.frame fun g1 hc1 ha1 hb1 => ?_
    obtain ⟨hc2, ha2⟩ := (h.lists k hk).blk hb1
    have h3 := h.gs
    have h4 := h.lists k hk
    rw [ha1] at h3
    rw [ha2] at h4
    exact own_ne h3 h4 hc1 hc2 (by decide) rfl
  have lists' : ∀ j (hj : j < L.length), BOwn wr base (L[j]).a (L[j]).n (L[j]).c (mkl j (L[j]).n) := by
    intro j hj
    by_cases e : j = k
    · subst e; exact h2.list
    · exact Own.grownNe (h.lists j hj) h2.frame fun g1 hc1 ha1 hb1 => hd j k hj hk e g1 (Sl.blk_some hc1 ha1) hb1
  refine ⟨?_, by unfold SOwn; rw [List.map_append]; exact ho, fun j hj => Own.grewOther (lists' j hj) gs' hg (by decide), fun j hj hG => ?_, ?_, ?_, h.baseB, h.oldO, h.oldL⟩
  · have o1 := h.outerIn hk h2.frame
    rcases hg with ⟨g1, e1, rfl, hc, hcc, hg⟩ | ⟨g1, e1, hs, hg⟩
    · refine Own.grownNe o1 hg fun g2 hc2 ha2 e2 => ?_
      injection e2 with e2
      subst e2
      have := h.oldO _ hc2 ha2
      obtain ⟨g3, e3, hb3, _⟩ := Own.block gs' hc
      rw [e1] at e3
      injection e3 with e3; injection e3 with e3
      omega
    · exact Own.grownNone o1 hg
  · by_cases e : j = k
    · subst e
      have eG : (G ++ [(⟨a, (L[j]).n + 70, c⟩ : Sl)])[j] = ⟨a, (L[j]).n + 70, c⟩ := by
        rw [List.getElem_append_right (by omega)]; simp [hGl]
      rw [eG]
      refine ⟨rfl, Own.grewOther h2.row gs' hg (by decide), fun g1 hb1 => ?_⟩
      have hb2 : c ≠ 0 ∧ ∃ x, a = some x ∧ x.block = g1 := by
        simp only [Sl.blk] at hb1
        split at hb1
        · cases hb1
        · rename_i hc
          exact ⟨hc, by simpa [Option.map_eq_some_iff] using hb1⟩
      obtain ⟨hc, x, rfl, rfl⟩ := hb2
      obtain ⟨g3, e3, _, _⟩ := Own.block h2.row (by omega)
      injection e3 with e3
      subst e3
      rcases h2.place g3 (by omega) rfl with hp | hp
      · exact .inl hp
      · exact .inr (Nat.le_trans h.size hp)
    · have hjk : j < k := by simp at hG; omega
      have eG : (G ++ [(⟨a, (L[k]).n + 70, c⟩ : Sl)])[j] = G[j]'(by omega) := List.getElem_append_left (by omega)
      rw [eG]
      obtain ⟨e1, e2, e3⟩ := h.done j hj (by omega)
      refine ⟨e1, Own.grewOther (Own.grownNe e2 h2.frame fun g1 hc1 ha1 hb1 => ?_) gs' hg (by decide), e3⟩
      rcases e3 g1 (Sl.blk_some hc1 ha1) with h5 | h5
      · exact hd j k hj hk e g1 h5 hb1
      · have := h.oldL k hk g1 hb1
        omega
  · have f1 : Below base wk wr := by
      refine ⟨h2.frame.os, h2.frame.tape, h2.frame.output, h2.frame.size, fun b hb => h2.frame.block b (by have := h.size; have := h.baseB; omega) fun e => ?_⟩
      obtain ⟨hc2, ha2⟩ := (h.lists k hk).blk e.symm
      obtain ⟨g3, e3, hb3, _⟩ := Own.block (h.lists k hk) hc2
      rw [ha2] at e3
      injection e3 with e3; injection e3 with e3
      omega
    refine h.below.trans (f1.trans ?_)
    rcases hg with ⟨g1, e1, rfl, hc, hcc, hg⟩ | ⟨g1, e1, hs, hg⟩
    · obtain ⟨g3, e3, hb3, _⟩ := Own.block gs' hc
      rw [e1] at e3
      injection e3 with e3; injection e3 with e3
      exact (Below.refl base wr).grown hg (by have := h.size; have := h.baseB; have := h2.frame.size; omega) (by rintro b ⟨⟩; have := h.baseB; omega)
    · exact (Below.refl base wr).grown hg (by have := h.size; have := h.baseB; have := h2.frame.size; omega) (by simp)
  · have := h.size
    have := h2.frame.size
    have := hg.grew.size
    omega

/-- phase 3: what is looked at -/
theorem St2.look {base : Nat} {als : Option Addr} {cls : Nat} {L : List Sl} {w : World} {B : Nat} {ags : Option Addr} {cgs : Nat} {G : List Sl} {wr : World} (h : St2 base als cls L w B L.length ags cgs G wr) (k : Nat) (hk : k < L.length) :
    ∃ gl gg h c, als = some ⟨gl, 0, none⟩ ∧ ags = some ⟨gg, 0, none⟩ ∧ wr.cell? ⟨gl, k, none⟩ = some (.slice (L[k]).a (L[k]).n (L[k]).c) ∧ wr.cell? ⟨gg, k, none⟩ = some (.slice (some ⟨h, 0, none⟩) ((L[k]).n + 70) c) ∧
      (∀ i, i < (L[k]).n + 70 → wr.cell? ⟨h, i, none⟩ = some (.int .u8 ((mrk ((k : Int) + 1) (i : Int)).toNat : Int))) ∧
      (∀ i, i < (L[k]).n → ∃ g, (L[k]).a = some ⟨g, 0, none⟩ ∧ wr.cell? ⟨g, i, none⟩ = some (.int .u8 ((mrk ((k : Int) + 1) (i : Int)).toNat : Int))) := by
  obtain ⟨gl, e1, _, _, c1, _⟩ := Own.cell h.outer k (by simpa using hk)
  obtain ⟨gg, e2, _, _, c2, _⟩ := Own.cell h.gs k (by simpa [h.gs.len] using hk)
  have hG : k < G.length := by rw [h.gs.len]; exact hk
  obtain ⟨d1, d2, _⟩ := h.done k hk hG
  obtain ⟨hh, e3, _, _, _, _⟩ := Own.cell d2 0 (by simp [mkl_length])
  refine ⟨gl, gg, hh, (G[k]).c, e1, e2, by rw [c1]; simp [Sl.val], by rw [c2]; simp [Sl.val, e3, d1], fun i hi => ?_, fun i hi => ?_⟩
  · obtain ⟨h', e4, _, _, c4, _⟩ := Own.cell d2 i (by simp [mkl_length]; omega)
    rw [e3] at e4
    injection e4 with e4; injection e4 with e4
    subst e4
    rw [c4]
    simp [bval, mkl]
  · obtain ⟨g, e4, _, _, c4, _⟩ := Own.cell (h.lists k hk) i (by simp [mkl_length]; omega)
    exact ⟨g, e4, by rw [c4]; simp [bval, mkl]⟩

end Go.Proofs.Ytkdmebcfedehiaa
/- Lists of lists of bytes that the call owns: an outer row of slices, each of them with memory of its own. -/
namespace Go.Proofs.Ytkdmebcfedehiaa
open Go.RowKit

/-- the value '.slice a n c' owns the lists bs -/
def LOwn (w : World) (base : Nat) (a : Option Addr) (n c : Nat) (bs : List (List UInt8)) : Prop :=
  ∃ L : List Sl, SOwn w base a n c L ∧ L.length = bs.length ∧ (∀ i (h : i < L.length) (h' : i < bs.length), BOwn w base (L[i]).a (L[i]).n (L[i]).c bs[i]) ∧ Distinct L

theorem LOwn.nil (w : World) (base : Nat) : LOwn w base none 0 0 [] :=
  ⟨[], Own.nil _ _ _ _ _, rfl, fun i (h : i < 0) => absurd h (by omega), fun i j (h : i < 0) => absurd h (by omega)⟩
theorem LOwn.len {w : World} {base : Nat} {a : Option Addr} {n c : Nat} {bs : List (List UInt8)} (h : LOwn w base a n c bs) : bs.length = n := by
  obtain ⟨L, h1, h2, _⟩ := h
  rw [← h2]; exact h1.len
theorem LOwn.cap {w : World} {base : Nat} {a : Option Addr} {n c : Nat} {bs : List (List UInt8)} (h : LOwn w base a n c bs) : n ≤ c ∧ c ≤ maxLen := by
  obtain ⟨L, h1, _⟩ := h
  exact Own.cap h1
theorem LOwn.grown {w w' : World} {base : Nat} {a : Option Addr} {n c : Nat} {bs : List (List UInt8)} (h : LOwn w base a n c bs) (hg : w.grownBy w' none) : LOwn w' base a n c bs := by
  obtain ⟨L, h1, h2, h3, h4⟩ := h
  exact ⟨L, Own.grownNone h1 hg, h2, fun i h h' => (h3 i h h').grown hg, h4⟩
theorem LOwn.mono {w : World} {base base' : Nat} {a : Option Addr} {n c : Nat} {bs : List (List UInt8)} (h : LOwn w base a n c bs) (hb : base' ≤ base) : LOwn w base' a n c bs := by
  obtain ⟨L, h1, h2, h3, h4⟩ := h
  exact ⟨L, Own.mono h1 hb, h2, fun i h h' => (h3 i h h').mono hb, h4⟩

/-- the list of slices bs, told by its slices -/
structure LIs (w : World) (base : Nat) (a : Option Addr) (n c : Nat) (bs : List (List UInt8)) (L : List Sl) : Prop where
  outer : SOwn w base a n c L
  len : L.length = bs.length
  inner : ∀ i (h : i < L.length) (h' : i < bs.length), BOwn w base (L[i]).a (L[i]).n (L[i]).c bs[i]
  apart : Distinct L
theorem LOwn.is {w : World} {base : Nat} {a : Option Addr} {n c : Nat} {bs : List (List UInt8)} (h : LOwn w base a n c bs) : ∃ L, LIs w base a n c bs L := by
  obtain ⟨L, h1, h2, h3, h4⟩ := h
  exact ⟨L, h1, h2, h3, h4⟩
theorem LIs.grown {w w' : World} {base : Nat} {a : Option Addr} {n c : Nat} {bs : List (List UInt8)} {L : List Sl} (h : LIs w base a n c bs L) (hg : w.grownBy w' none) : LIs w' base a n c bs L :=
  ⟨Own.grownNone h.outer hg, h.len, fun i h1 h2 => (h.inner i h1 h2).grown hg, h.apart⟩

/-- one list more -/
theorem LIs.push {w w1 w2 : World} {base : Nat} {a : Option Addr} {n c : Nat} {bs : List (List UInt8)} {L : List Sl} (h : LIs w base a n c bs L) (hb : base ≤ w.heap.size) (hg : w.grownBy w1 none)
    {a' : Option Addr} {n' c' : Nat} {b : List UInt8} (ho : BOwn w1 w.heap.size a' n' c' b) {a2 : Option Addr} {c2 : Nat}
    (hs : Own w2 base 24 1 a2 (n + 1) c2 (L.map Sl.val ++ [.slice a' n' c'])) (hgr : GrewP w1 w2 a c a2 c2) : LOwn w2 base a2 (n + 1) c2 (bs ++ [b]) := by
  obtain ⟨h1, h2, h3, h4⟩ := h
  have h1' : SOwn w1 base a n c L := Own.grownNone h1 hg
  have hin : ∀ i (h : i < L.length) (h' : i < bs.length), BOwn w2 base (L[i]).a (L[i]).n (L[i]).c bs[i] := fun i h h' => Own.grewOther ((h3 i h h').grown hg) h1' hgr (by decide)
  have hnew : BOwn w2 base a' n' c' b := Own.grewOther (ho.mono hb) h1' hgr (by decide)
  refine ⟨L ++ [⟨a', n', c'⟩], ?_, by simp [h2], ?_, ?_⟩
  · unfold SOwn; rw [List.map_append]; exact hs
  · intro i hi hi'
    by_cases e : i < L.length
    · have e' : i < bs.length := by omega
      rw [List.getElem_append_left e, List.getElem_append_left e']
      exact hin i e e'
    · simp only [List.length_append, List.length_singleton] at hi
      obtain rfl : i = L.length := by omega
      have e2 : (L ++ [⟨a', n', c'⟩])[L.length] = (⟨a', n', c'⟩ : Sl) := by simp
      have e3 : (bs ++ [b])[L.length] = b := by simp [h2]
      rw [e2, e3]
      exact hnew
  · have old : ∀ i (hi : i < L.length) g, (L[i]).blk = some g → g < w.heap.size := by
      intro i hi g hgb
      have hbo := h3 i hi (by omega)
      obtain ⟨hc, ha⟩ := hbo.blk hgb
      obtain ⟨g', ha', _, hlt⟩ := Own.block hbo hc
      rw [ha] at ha'
      obtain rfl : g = g' := by simpa using ha'
      exact hlt
    have new : ∀ g, (⟨a', n', c'⟩ : Sl).blk = some g → w.heap.size ≤ g := by
      intro g hgb
      have hbo : BOwn w1 w.heap.size (⟨a', n', c'⟩ : Sl).a (⟨a', n', c'⟩ : Sl).n (⟨a', n', c'⟩ : Sl).c b := ho
      obtain ⟨hc, ha⟩ := hbo.blk hgb
      obtain ⟨g', ha', hlt, _⟩ := Own.block hbo hc
      rw [ha] at ha'
      obtain rfl : g = g' := by simpa using ha'
      exact hlt
    intro i j hi hj hij g hgi hgj
    simp only [List.length_append, List.length_singleton] at hi hj
    by_cases ei : i < L.length
    · by_cases ej : j < L.length
      · rw [List.getElem_append_left ei] at hgi
        rw [List.getElem_append_left ej] at hgj
        exact h4 i j ei ej hij g hgi hgj
      · obtain rfl : j = L.length := by omega
        rw [List.getElem_append_left ei] at hgi
        have e2 : (L ++ [⟨a', n', c'⟩])[L.length]'(by simp) = (⟨a', n', c'⟩ : Sl) := by simp
        rw [e2] at hgj
        have := old i ei g hgi
        have := new g hgj
        omega
    · obtain rfl : i = L.length := by omega
      have ej : j < L.length := by omega
      rw [List.getElem_append_left ej] at hgj
      have e2 : (L ++ [⟨a', n', c'⟩])[L.length]'(by simp) = (⟨a', n', c'⟩ : Sl) := by simp
      rw [e2] at hgi
      have := old j ej g hgj
      have := new g hgi
      omega

/-- a list of slices that lies somewhere, and the bytes that they hold -/
def LLies (w : World) (a : Option Addr) (L : List Sl) (bs : List (List UInt8)) : Prop :=
  Lies w a (L.map Sl.val) ∧ L.length = bs.length ∧ ∀ i (h : i < L.length) (h' : i < bs.length), BLies w (L[i]).a bs[i] ∧ (L[i]).n = (bs[i]).length

theorem LOwn.lies {w : World} {base : Nat} {a : Option Addr} {n c : Nat} {bs : List (List UInt8)} (h : LOwn w base a n c bs) : ∃ L, LLies w a L bs ∧ SOwn w base a n c L ∧ ∀ i (h : i < L.length) (h' : i < bs.length), BOwn w base (L[i]).a (L[i]).n (L[i]).c bs[i] := by
  obtain ⟨L, h1, h2, h3, h4⟩ := h
  refine ⟨L, ⟨?_, h2, fun i h h' => ⟨(h3 i h h').lies, (h3 i h h').len.symm⟩⟩, h1, h3⟩
  intro k hk
  obtain ⟨g, e, _, _, hc, _⟩ := Own.cell h1 k hk
  exact ⟨g, 0, e, by rw [Nat.zero_add, hc]⟩

theorem LLies.heap {w w' : World} {a : Option Addr} {L : List Sl} {bs : List (List UInt8)} (h : LLies w a L bs) (hk : ∀ b, b < w.heap.size → w'.heap[b]? = w.heap[b]?) : LLies w' a L bs := by
  refine ⟨fun k hk' => ?_, h.2.1, fun i hi hi' => ⟨((h.2.2 i hi hi').1).heap fun b _ _ hb => hk b hb, (h.2.2 i hi hi').2⟩⟩
  obtain ⟨b, off, e, hc⟩ := h.1 k hk'
  exact ⟨b, off, e, (World.cell?_of_block (hk b (World.block_lt_of_cell? w _ hc))).trans hc⟩
theorem LLies.grown {w w' : World} {a : Option Addr} {L : List Sl} {bs : List (List UInt8)} (h : LLies w a L bs) (hg : w.grownBy w' none) : LLies w' a L bs :=
  h.heap fun b hb => hg.block b hb (by simp)

end Go.Proofs.Ytkdmebcfedehiaa
/- slices.Grow from nothing, slices.Concat, octet.Join. -/
namespace Go.Proofs.Ytkdmebcfedehiaa
open Go.RowKit

theorem run_app_empty (w : World) (a x : Option Addr) (n c c2 : Nat) (hn : n ≤ c) (hc : c ≤ maxLen) (ha : a = none → c = 0) (ty : TypeId) : (Builtin.append_ #[24, 24] ty #[.slice a n c, .slice x 0 c2]).run Try.prog w = .ok (.slice a n c) w := by
  obtain ⟨i, hi, hz, hs, hb⟩ := elB.info
  unfold maxLen at hc
  cases a with
  | none =>
    obtain rfl : c = 0 := ha rfl
    obtain rfl : n = 0 := by omega
    cases x <;> simp [Builtin.append_, run_underlying Try.underlying24, sizeOf, typeInfo, hi, Builtin.lenOf, Builtin.firstCells, loadCells, loadCellsFrom]
  | some ad =>
    have hnot : ¬ c < n := by omega
    cases x <;> simp [Builtin.append_, run_underlying Try.underlying24, sizeOf, typeInfo, hi, Builtin.lenOf, Builtin.firstCells, loadCells, loadCellsFrom, hn, storeCells]

theorem own_cut0 {w : World} {base : Nat} {e : TypeId} {a : Option Addr} {n c : Nat} {xs : List Value} (h : Own w base e 1 a n c xs) : Own w base e 1 a 0 c [] := by
  rcases h.2 with ⟨h0, h1⟩ | ⟨g, cur, ha, hb, hh, hn, hm, hs, ht⟩
  · exact ⟨rfl, .inl ⟨rfl, h1⟩⟩
  · exact ⟨rfl, .inr ⟨g, cur, ha, hb, hh, Nat.zero_le _, hm, hs, by simp⟩⟩

set_option maxRecDepth 100000 in
set_option maxHeartbeats 1000000 in
theorem grow_n (n : Nat) (w : World) (hn : n ≤ 4000000000) :
    Calls Try.prog 66 #[.slice none 0 0, .int .i64 (n : Int)] w fun e w' => ∃ a c, e = .returned (.slice a 0 c) ∧ BOwn w' w.heap.size a 0 c [] ∧ w.grownBy w' none := by
  rcases Nat.eq_zero_or_pos n with rfl | hpos
  · go_enter Try.func66, Try.ntmps66
    go_wp2_with fail
    go_ret
    exact ⟨none, 0, rfl, Own.nil _ _ _ _ _, World.grownBy.refl _ _⟩
  · obtain ⟨g, c', w1, hrun, ho, hgr⟩ := run_appz (P := Try.prog) (ty := 24) w elB rfl rfl Try.underlying3 (Own.nil w w.heap.size 5 1 none) n hpos (by unfold maxLen; omega) (by omega) (Nat.le_refl _) .i64
    have hg := hgr.grew.grown (Own.nil w w.heap.size 5 1 none) (World.grownBy.refl _ _) (Nat.le_refl _)
    have hd0 : decide ((n : Int) < 0) = false := by simp
    have hd1 : decide ((0 : Int) < (n : Int)) = true := by simp; omega
    have HO := Lib.hid ho
    have HG := Lib.hid hg
    have HRUN := Lib.hid hrun
    clear ho hg hgr hrun
    go_enter Try.func66, Try.ntmps66
    go_wp2_with (at_builtin; refine Lib.wpList_append_run _ rfl _ _ _ _ rfl _ _ rfl rfl _ _ HRUN.out ?_)
    go_ret
    exact ⟨_, c', rfl, own_cut0 HO.out, HG.out⟩

set_option maxRecDepth 100000 in
set_option maxHeartbeats 4000000 in
theorem concat_n (a : Option Addr) (c K : Nat) (L : List Sl) (bs : List (List UInt8)) (w : World) (hL : LLies w a L bs) (hK : bs.length = K) (hf : bs.flatten.length ≤ 1000000000) (hK2 : K ≤ 4000000000) :
    Calls Try.prog 48 #[.slice a K c] w fun e w' => ∃ a' m c', e = .returned (.slice a' m c') ∧ BOwn w' w.heap.size a' m c' bs.flatten ∧ w.grownBy w' none := by
  have pre : ∀ i, (bs.take i).flatten.length ≤ bs.flatten.length := fun i => by
    have h := congrArg List.length (congrArg List.flatten (List.take_append_drop i bs))
    rw [List.flatten_append, List.length_append] at h
    omega
  have HLL := Lib.hid hL
  have HK := Lib.hid hK
  have HP := Lib.hid pre
  have HF := Lib.hid hf
  clear hL hK pre hf
  go_enter Try.func48, Try.ntmps48
  go_wp2_with fail
  go_loopw [3, 11] (fun vs vi wr => ∃ i s : Nat, i ≤ K ∧ Hid (s = (bs.take i).flatten.length) ∧ vi = .int .i64 i ∧ vs = .int .i64 s ∧ w = wr) (fun _ vi _ => K - (intOf vi).toNat)
  case atStart => exact ⟨0, 0, by omega, Lib.hid (by simp), rfl, rfl, rfl⟩
  case round =>
    obtain ⟨i, s, hi, HS, rfl, rfl, rfl⟩ := hrel
    by_cases hlt : i < K
    · have hib : i < bs.length := by rw [HK.out]; exact hlt
      have hiL : i < L.length := by rw [HLL.out.2.1]; exact hib
      obtain ⟨g, o, haa, hc⟩ := HLL.out.1 i (by rw [List.length_map]; exact hiL)
      have hin := HLL.out.2.2 i hiL hib
      subst haa
      obtain ⟨b, hb⟩ : ∃ b, b = bs[i] := ⟨_, rfl⟩
      obtain ⟨sl, hsl⟩ : ∃ sl, sl = L[i] := ⟨_, rfl⟩
      rw [← hb, ← hsl] at hin
      have hc' : w.cell? ⟨g, o + i, none⟩ = some sl.val := by rw [hc, hsl]; simp
      obtain ⟨sa, sn, sc⟩ := sl
      have hsn : sn = b.length := hin.2
      have hnext : s + sn = (bs.take (i + 1)).flatten.length := by
        rw [List.take_succ_eq_append_getElem hib, List.flatten_append, List.length_append, ← hb, HS.out, hsn]
        simp
      have hp := HP.out (i + 1)
      rw [← hnext] at hp
      have hs1 := HF.out
      have hcc : w.cell? ⟨g, o + i, none⟩ = some (.slice sa sn sc) := hc'
      have hw : IntKind.i64.wrap ((s : Int) + (sn : Int)) = (s : Int) + (sn : Int) := IntWalk.i64_in _ (by omega)
      have hd0 : decide ((s : Int) + (sn : Int) < 0) = false := by simp; omega
      have HNX := Lib.hid hnext
      clear hin hb hsl hc hc' hsn hnext hp hs1
      go_wp2_with fail
      go_roundw
      case rel => exact ⟨i + 1, s + sn, by omega, HNX, by go_num, by first | rfl | go_num, by first | rfl | trivial⟩
      case measure => simp [intOf]; omega
    · obtain rfl : i = K := by omega
      have htk : bs.take i = bs := List.take_of_length_le (by rw [HK.out]; exact Nat.le_refl _)
      have hs2 : s ≤ 4000000000 := by have h1 := HS.out; have h2 := HF.out; rw [htk] at h1; omega
      have HTK := Lib.hid htk
      clear htk
      go_wp2_with fail
      refine (grow_n s w hs2).mono ?_
      rintro e w1 ⟨a1, c1, rfl, ho, hg⟩
      have HO := Lib.hid ho
      have HG := Lib.hid hg
      clear ho hg
      go_wp2_with fail
      go_loopw [6, 27] (fun v vi wr => ∃ (j r : Nat) (a' : Option Addr) (c' : Nat), j ≤ i ∧ vi = .int .i64 j ∧ v = .slice a' r c' ∧ BOwn wr w.heap.size a' r c' (bs.take j).flatten ∧ w.grownBy wr none) (fun _ vi _ => i - (intOf vi).toNat)
      case atStart => exact ⟨0, 0, a1, c1, by omega, rfl, rfl, HO.out, HG.out⟩
      case round =>
        obtain ⟨j, r, a', c', hj, rfl, rfl, ho, hg⟩ := hrel
        replace HO := Lib.hid ho
        replace HG := Lib.hid hg
        have HR := Lib.hid (BOwn.len ho)
        clear ho hg
        by_cases hlt2 : j < i
        · have hib : j < bs.length := by rw [HK.out]; exact hlt2
          have hLw := HLL.out.grown HG.out
          have hiL : j < L.length := by rw [HLL.out.2.1]; exact hib
          obtain ⟨g, o, haa, hc⟩ := hLw.1 j (by rw [List.length_map]; exact hiL)
          have hin := hLw.2.2 j hiL hib
          subst haa
          obtain ⟨b, hb⟩ : ∃ b, b = bs[j] := ⟨_, rfl⟩
          obtain ⟨sl, hsl⟩ : ∃ sl, sl = L[j] := ⟨_, rfl⟩
          rw [← hb, ← hsl] at hin
          have hc' : wr.cell? ⟨g, o + j, none⟩ = some sl.val := by rw [hc, hsl]; simp
          obtain ⟨sa, sn, sc⟩ := sl
          obtain ⟨hbl, hsn⟩ := hin
          have hsn' : sn = b.length := hsn
          have hbl' : BLies wr sa b := hbl
          have hstep : (bs.take (j + 1)).flatten = (bs.take j).flatten ++ b := by
            rw [List.take_succ_eq_append_getElem hib, List.flatten_append, ← hb]
            simp
          have hp := HP.out (j + 1)
          rw [hstep, List.length_append, HR.out, ← hsn'] at hp
          have hff := HF.out
          have hsz := HG.out.size
          have HB := Lib.hid hbl'
          have HSN := Lib.hid hsn'
          have HST := Lib.hid hstep
          have hcc : wr.cell? ⟨g, o + j, none⟩ = some (.slice sa sn sc) := hc'
          have hrn : r + sn ≤ 1000000000 := by omega
          clear hb hsl hc hc' hsn hsn' hbl hbl' hstep hp hff hLw
          rcases Nat.eq_zero_or_pos sn with rfl | hpos
          · have hb0 : b = [] := List.eq_nil_of_length_eq_zero HSN.out.symm
            have hcap := HO.out.cap
            have hno : a' = none → c' = 0 := fun h => by
              by_cases h0 : 0 < c'
              · obtain ⟨g', e, _⟩ := Own.block HO.out h0
                rw [h] at e; cases e
              · omega
            have HRE := Lib.hid (fun W => run_app_empty (ty := 24) W a' sa r c' sc hcap.1 hcap.2 hno)
            clear hno hcap
            go_wp2_with (at_builtin; go_loud (refine Lib.wpList_append_run _ rfl _ _ _ _ rfl _ _ rfl rfl _ _ (HRE.out _) ?_))
            go_roundw
            case rel => exact ⟨j + 1, r, a', c', by omega, by go_num, rfl, by rw [HST.out, hb0, List.append_nil]; exact HO.out, HG.out⟩
            case measure => simp [intOf]; omega
          · obtain ⟨bb, boff, rfl⟩ := HB.out.addr (by rw [← HSN.out]; omega)
            go_wp2_with (at_builtin; refine wpList_app elB rfl (.tmp 31) (.tmp 32) rfl rfl HO.out ⟨bb, boff, none⟩ sn sc (b.map bval) rfl (by rw [List.length_map, ← HSN.out, Nat.mul_one]) HB.out.news (bval_one b) (by unfold maxLen; omega) (by omega) hsz (by omega) ?_; intro g cap w2 hown2 hgr; have HO2 := Lib.hid hown2; have HG2 := Lib.hid (hgr.grew.grown HO.out HG.out (Nat.le_refl _)); clear hown2 hgr)
            go_roundw
            case rel =>
              refine ⟨j + 1, r + sn, _, _, by omega, by go_num, rfl, ?_, HG2.out⟩
              rw [HST.out]
              unfold BOwn
              rw [List.map_append]
              exact HO2.out
            case measure => simp [intOf]; omega
        · obtain rfl : j = i := by omega
          rw [HTK.out] at HO
          go_wp2_with fail
          go_ret
          exact ⟨_, _, _, rfl, HO.out, HG.out⟩

set_option maxRecDepth 100000 in
theorem joinB_n (a : Option Addr) (c K : Nat) (L : List Sl) (bs : List (List UInt8)) (w : World) (hL : LLies w a L bs) (hK : bs.length = K) (hf : bs.flatten.length ≤ 1000000000) (hK2 : K ≤ 4000000000) :
    Calls Try.prog 23 #[.slice a K c] w fun e w' => ∃ a' m c', e = .returned (.slice a' m c') ∧ BOwn w' w.heap.size a' m c' bs.flatten ∧ w.grownBy w' none := by
  have HC := Lib.hid (concat_n a c K L bs w hL hK hf hK2)
  clear hL hK hf hK2
  go_enter Try.func23, Try.ntmps23
  go_wp2_with fail
  refine HC.out.mono ?_
  rintro e w1 ⟨a', m, c', rfl, ho, hg⟩
  have HO := Lib.hid ho
  have HG := Lib.hid hg
  clear ho hg
  go_wp2_with fail
  go_ret
  exact ⟨a', m, c', rfl, HO.out, HG.out⟩

end Go.Proofs.Ytkdmebcfedehiaa
/- A region that draws its order and makes lists of bytes and calls beside: one step each. -/
namespace Go.Proofs.Ytkdmebcfedehiaa
open Go.RowKit

end Go.Proofs.Ytkdmebcfedehiaa
