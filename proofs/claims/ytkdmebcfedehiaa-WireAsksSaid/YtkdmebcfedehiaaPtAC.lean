/- Helpers and contracts of the proofs over this seat: WireRepP, Reader, Mid, WireRepG. Each states what a function of the program answers, or is plain Lean; its conditions stand in each statement. -/
import Derived.Test.YtkdmebcfedehiaaPtAA
import Derived.Test.YtkdmebcfedehiaaPtAB
set_option linter.unusedVariables false
/- wire.PutReply: of every reply. Printed by gens/wirerep.py. -/
namespace Go.Proofs.Ytkdmebcfedehiaa
open Go.RowKit

def putL (r : Rp) : List UInt8 := if mayR r = true then encR r else []
def putE (r : Rp) : Int := if mayR r = true then 0 else 201
theorem wp_normal {P : Program} {c : Code} {Q : Exit → Act → World → Prop} {a : Act} {w : World} (h : c.wp P (fun x a w => x = .normal ∧ Q .normal a w) a w) : c.wp P Q a w :=
  wp_mono h (fun e a w h => by obtain ⟨rfl, h⟩ := h; exact h)
theorem bval_nat (n : Nat) (h : n < 256) : bval (UInt8.ofNat n) = .int .u8 (n : Int) := by
  unfold bval
  rw [ofNat_byte n h]
theorem bval_numB {x : Int} (h : 0 ≤ x) (h2 : x < 256) : bval (numB x) = .int .u8 x := by
  have := byN_numB h h2
  unfold byN at this
  unfold bval
  rw [this]
theorem big32_e (x : Nat) (hx : x < 4294967296) (w : World) : Calls Try.prog 24 #[.int .u32 x] w fun e w' => ∃ g, e = .returned (.slice (some ⟨g, 0, none⟩) 4 4) ∧ BOwn w' w.heap.size (some ⟨g, 0, none⟩) 4 4 (bigL 4 x) ∧ w.grownBy w' none :=
  (big32_any x hx w).mono fun e w' ⟨h1, h2⟩ => ⟨_, h1, by rw [h2]; exact own_new w _ 4 (bigL_length 4 x) (by decide), by rw [h2]; exact World.grownBy_alloc _ _ _⟩
/-- a literal list of lists of bytes -/
theorem row_llies {w : World} {b : Nat} {L : List Sl} {bs : List (List UInt8)} (hr : Row w b 24 (L.map Sl.val).toArray) (hl : L.length = bs.length) (h : ∀ i (h : i < L.length) (h' : i < bs.length), BLies w (L[i]).a bs[i] ∧ (L[i]).n = (bs[i]).length) : LLies w (some ⟨b, 0, none⟩) L bs := by
  refine ⟨fun k hk => ⟨b, 0, rfl, ?_⟩, hl, h⟩
  rw [Nat.zero_add, Row.cell hr]
  simp only [List.getElem?_toArray]
  rw [List.getElem?_eq_getElem hk]

set_option maxRecDepth 100000 in
set_option maxHeartbeats 4000000 in
theorem putReply_none (K : Int) (k n cn m cb : Nat) (an ab : Option Addr) (ns : List Int) (bs : List UInt8) (w : World) (hK : K = (k : Int)) (hk : k < 256) (hns : Lies w an (IV ns)) (hbs : BLies w ab bs) (hn : ns.length = n) (hm : bs.length = m) (hnm : n ≤ maxLen) (hmm : m ≤ maxLen) (hmay : ¬ mayR ⟨k, ns, bs⟩ = true) :
    Calls Try.prog 9 #[.agg #[.int .u8 K, .slice an n cn, .slice ab m cb]] w fun e w' => ∃ a' n' c', e = .returned (.tuple #[.slice a' n' c', .int .i64 (putE ⟨k, ns, bs⟩)]) ∧ BOwn w' w.heap.size a' n' c' (putL ⟨k, ns, bs⟩) ∧ w.grownBy w' none := by
  have HNS := Lib.hid hns
  have HBS := Lib.hid hbs
  have HN := Lib.hid hn
  have HM := Lib.hid hm
  have hmt := fun W (hW : w.grownBy W none) => mayTell_n K k n cn m cb an ab ns bs W hK (hns.grown hW) hn hm hnm hmm
  have HMT := Lib.hid hmt
  clear hns hbs hn hm hmt
  have hL : putL ⟨k, ns, bs⟩ = [] := if_neg hmay
  have hE : putE ⟨k, ns, bs⟩ = 201 := if_neg hmay
  rw [hL, hE]
  rw [Bool.not_eq_true] at hmay
  rw [hmay] at HMT
  clear hL hE hmay hK
  go_enter Try.func9, Try.ntmps9
  go_wp2_with (first | (refine wpList_boxed rfl rfl #[.int .u8 K, .slice an n cn, .slice ab m cb] rfl ?_; intro wb hsb hgb hrb; have HB := Lib.hid hrb; have HG := Lib.hid hgb; clear hsb hgb hrb) | (refine wpList_load_row rfl 26 _ rfl w.heap.size rfl 26 #[.int .u8 K, .slice an n cn, .slice ab m cb] (0, 0) _ HB.out Try.underlying26 rfl (by kernel_rfl) ?_))
  refine (HMT.out wb HG.out).mono ?_
  rintro e w1 ⟨rfl, hg1⟩
  have HG1 := Lib.hid (grownBy_trans HG.out hg1)
  clear hg1
  go_wp2_with fail
  go_ret2
  exact ⟨_, _, _, rfl, Own.nil _ _ _ _ _, HG1.out⟩
set_option maxRecDepth 100000 in
set_option maxHeartbeats 4000000 in
theorem putReply_1 (K : Int) (k n cn m cb : Nat) (an ab : Option Addr) (ns : List Int) (bs : List UInt8) (w : World) (hK : K = (k : Int)) (hk : k < 256) (hns : Lies w an (IV ns)) (hbs : BLies w ab bs) (hn : ns.length = n) (hm : bs.length = m) (hnm : n ≤ maxLen) (hmm : m ≤ maxLen) (hmay : mayR ⟨k, ns, bs⟩ = true) (h1 : k = 1) :
    Calls Try.prog 9 #[.agg #[.int .u8 K, .slice an n cn, .slice ab m cb]] w fun e w' => ∃ a' n' c', e = .returned (.tuple #[.slice a' n' c', .int .i64 (putE ⟨k, ns, bs⟩)]) ∧ BOwn w' w.heap.size a' n' c' (putL ⟨k, ns, bs⟩) ∧ w.grownBy w' none := by
  have HNS := Lib.hid hns
  have HBS := Lib.hid hbs
  have HN := Lib.hid hn
  have HM := Lib.hid hm
  have hmt := fun W (hW : w.grownBy W none) => mayTell_n K k n cn m cb an ab ns bs W hK (hns.grown hW) hn hm hnm hmm
  have HMT := Lib.hid hmt
  clear hns hbs hn hm hmt
  have hL : putL ⟨k, ns, bs⟩ = encR ⟨k, ns, bs⟩ := if_pos hmay
  have hE : putE ⟨k, ns, bs⟩ = 0 := if_pos hmay
  rw [hL, hE]
  rw [hmay] at HMT
  subst h1
  have hK1 : K = 1 := hK
  subst hK1
  clear hK
  have hm0 : ¬ 0 < m := fun h => by rw [mayR_1b ns (by have := HM.out; omega)] at hmay; cases hmay
  obtain rfl : m = 0 := by omega
  have hb := List.eq_nil_of_length_eq_zero HM.out
  subst hb
  rw [mayR_1] at hmay
  have hlen := incr_len ns (-1) hmay (by omega)
  have hn255 : n ≤ 255 := by have := HN.out; omega
  have HX := Lib.hid (fun j (hj : j < n) => incr_bound ns (-1) hmay (ns.getD j 0) (by have := HN.out; rw [List.getD_eq_getElem?_getD, List.getElem?_eq_getElem (by omega)]; exact List.getElem_mem _))
  clear hlen hmay hm0 hnm hmm hL hE
  go_enter Try.func9, Try.ntmps9
  go_wp2_with (first | (refine wpList_boxed rfl rfl #[.int .u8 1, .slice an n cn, .slice ab 0 cb] rfl ?_; intro wb hsb hgb hrb; have HB := Lib.hid hrb; have HG := Lib.hid hgb; clear hsb hgb hrb) | (refine wpList_load_row rfl 26 _ rfl w.heap.size rfl 26 #[.int .u8 1, .slice an n cn, .slice ab 0 cb] (0, 0) _ HB.out Try.underlying26 rfl (by kernel_rfl) ?_))
  refine (HMT.out wb HG.out).mono ?_
  rintro e w1 ⟨rfl, hg1⟩
  have HG1 := Lib.hid (grownBy_trans HG.out hg1)
  have HB1 := Lib.hid (HB.out.grown hg1)
  have c0 := Row.cell HB1.out 0
  simp at c0
  clear hg1
  go_upto_region 4 with fail
  obtain ⟨W2, hW2⟩ : ∃ W2, W2 = w1.alloc (.cells #[.int .u8 1] 5) := ⟨_, rfl⟩
  rw [← hW2]
  have hg2 : w1.grownBy W2 none := hW2 ▸ World.grownBy_alloc _ _ none
  have hr2 : BRow W2 w1.heap.size 5 [1] := by rw [hW2]; exact heap_alloc_new w1 _
  have ho2 : Own W2 w.heap.size 5 1 (some ⟨w1.heap.size, 0, none⟩) 1 1 (([1] : List UInt8).map bval) := BRow.own hr2 (by have := HG1.out.size; omega) 1 rfl (by decide)
  have HO2 := Lib.hid ho2
  have HG2 := Lib.hid (grownBy_trans HG1.out hg2)
  have HB2 := Lib.hid (HB1.out.grown hg2)
  have hlt : w.heap.size < w1.heap.size := HB1.out.lt
  clear c0 hW2 hg2 hr2 ho2
  have c0 := Row.cell HB2.out 0
  have c1 := Row.cell HB2.out 1
  simp at c0 c1
  have hwv : IntKind.u8.wrap (n : Int) = (n : Int) := by rw [show IntKind.u8.wrap (n : Int) = (n : Int) % 256 from rfl]; omega
  go_upto_region 7 with (at_builtin; refine wpList_push elB rfl (.tmp 17) (.tmp 22) rfl rfl HO2.out (.int .u8 (n : Int)) rfl rfl (by decide) (by decide) HG2.out.size ?_; intro g3 cap3 w3 hown3 hgr3; have HO3 := Lib.hid hown3; have HG3 := Lib.hid (hgr3.grew.grown HO2.out HG2.out (Nat.le_refl _)); have HB3 := Lib.hid (Row.ch HB2.out hgr3.ch (fun h => by have := h.2; injection this with this; injection this with e1 e2; omega)); clear hown3 hgr3)
  clear c0 c1
  have c1 := Row.cell HB3.out 1
  simp at c1
  have HO3' : Hid (Own w3 w.heap.size 5 1 (some ⟨g3, 0, none⟩) 2 cap3 (([1, UInt8.ofNat n] : List UInt8).map bval)) := Lib.hid (by
    have h := HO3.out
    rw [← bval_nat n (by omega)] at h
    exact h)
  clear HO3 hwv
  go_wp2_with fail
  go_loopw [27, 4] (fun vi vo wr => ∃ (j : Nat) (a : Option Addr) (mm c : Nat), j ≤ n ∧ mm = 2 + j ∧ vi = .int .i64 (j : Int) ∧ vo = .slice a mm c ∧ Own wr w.heap.size 5 1 a mm c ((([1, UInt8.ofNat n] : List UInt8) ++ (ns.take j).map numB).map bval) ∧ w.grownBy wr none) (fun vi _ _ => n - (intOf vi).toNat)
  case atStart => exact ⟨0, _, _, _, by omega, rfl, rfl, rfl, HO3'.out, HG3.out⟩
  case round =>
    obtain ⟨j, a, mm, c, hj, hmm, rfl, rfl, ho, hg⟩ := hrel
    have HO := Lib.hid ho
    have HG4 := Lib.hid hg
    clear ho hg
    by_cases hlt2 : j < n
    · obtain ⟨b, off, rfl, hc⟩ := ints_cells (HNS.out.grown HG4.out) (by have := HN.out; omega)
      have hcj := hc j (by have := HN.out; omega)
      obtain ⟨hx1, hx2⟩ := HX.out j hlt2
      have htk : (ns.take (j + 1)).map numB = (ns.take j).map numB ++ [numB (ns.getD j 0)] := by
        have hjl : j < ns.length := by have := HN.out; omega
        rw [List.take_succ_eq_append_getElem hjl, List.map_append, List.getD_eq_getElem?_getD, List.getElem?_eq_getElem hjl]
        rfl
      obtain ⟨x, hx⟩ : ∃ x, x = ns.getD j 0 := ⟨_, rfl⟩
      rw [← hx] at hcj hx1 hx2 htk
      have HTK := Lib.hid htk
      have HBV := Lib.hid (bval_numB (x := x) (by omega) (by omega))
      have hwv : IntKind.u8.wrap x = x := by rw [show IntKind.u8.wrap x = x % 256 from rfl]; omega
      clear hc htk hx hx1 hx2
      subst hmm
      go_wp2_with (at_builtin; refine wpList_push elB rfl (.tmp 31) (.tmp 34) rfl rfl HO.out (.int .u8 x) rfl rfl (by unfold maxLen; omega) (by omega) HG4.out.size ?_; intro g5 cap5 w5 hown5 hgr5; have HO5 := Lib.hid hown5; have HG5 := Lib.hid (hgr5.grew.grown HO.out HG4.out (Nat.le_refl _)); clear hown5 hgr5)
      go_roundw
      case rel =>
        refine ⟨j + 1, _, _, _, by omega, by omega, by first | rfl | go_num, rfl, ?_, HG5.out⟩
        have h := HO5.out
        rw [HTK.out, ← List.append_assoc, List.map_append (l₁ := _ ++ _), List.map_singleton, HBV.out]
        exact h
      case measure => simp [intOf]; omega
    · obtain rfl : j = n := by omega
      subst hmm
      go_wp2_with fail
      go_ret2
      refine ⟨_, _, _, rfl, ?_, HG4.out⟩
      have h := HO.out
      rw [List.take_of_length_le (by have := HN.out; omega)] at h
      rw [show encR ⟨1, ns, []⟩ = [1, UInt8.ofNat j] ++ ns.map numB from by rw [← HN.out]; rfl]
      exact h
set_option maxRecDepth 100000 in
set_option maxHeartbeats 4000000 in
theorem putReply_k (K : Int) (k n cn m cb : Nat) (an ab : Option Addr) (ns : List Int) (bs : List UInt8) (w : World) (hK : K = (k : Int)) (hk : k < 256) (hns : Lies w an (IV ns)) (hbs : BLies w ab bs) (hn : ns.length = n) (hm : bs.length = m) (hnm : n ≤ maxLen) (hmm : m ≤ maxLen) (hmay : mayR ⟨k, ns, bs⟩ = true) (h1 : k ≠ 1) (h5 : k ≠ 5) :
    Calls Try.prog 9 #[.agg #[.int .u8 K, .slice an n cn, .slice ab m cb]] w fun e w' => ∃ a' n' c', e = .returned (.tuple #[.slice a' n' c', .int .i64 (putE ⟨k, ns, bs⟩)]) ∧ BOwn w' w.heap.size a' n' c' (putL ⟨k, ns, bs⟩) ∧ w.grownBy w' none := by
  have HNS := Lib.hid hns
  have HBS := Lib.hid hbs
  have HN := Lib.hid hn
  have HM := Lib.hid hm
  have hmt := fun W (hW : w.grownBy W none) => mayTell_n K k n cn m cb an ab ns bs W hK (hns.grown hW) hn hm hnm hmm
  have HMT := Lib.hid hmt
  clear hns hbs hn hm hmt
  have hL : putL ⟨k, ns, bs⟩ = encR ⟨k, ns, bs⟩ := if_pos hmay
  have hE : putE ⟨k, ns, bs⟩ = 0 := if_pos hmay
  rw [hL, hE]
  rw [hmay] at HMT
  have hb1 : (K == 1) = false := by rw [beq_eq_false_iff_ne]; omega
  have hn0 : ¬ 0 < n := fun h => by rw [mayR_n h1 (by have := HN.out; omega)] at hmay; cases hmay
  obtain rfl : n = 0 := by omega
  have hb := List.eq_nil_of_length_eq_zero HN.out
  subst hb
  have hc1 : (K == 5) = false := by rw [beq_eq_false_iff_ne]; omega
  have hm0 : ¬ 0 < m := fun h => by rw [mayR_b h1 h5 (by have := HM.out; omega)] at hmay; cases hmay
  obtain rfl : m = 0 := by omega
  have hb := List.eq_nil_of_length_eq_zero HM.out
  subst hb
  have hen : encR ⟨k, [], []⟩ = [UInt8.ofNat k] := by unfold encR; simp only [if_neg h1, if_neg h5]
  rw [hen]
  have HBV := Lib.hid (bval_nat k hk)
  have HKK := Lib.hid hK
  clear hK hn0 hm0 hL hE hen hmay
  go_enter Try.func9, Try.ntmps9
  go_wp2_with (first | (refine wpList_boxed rfl rfl #[.int .u8 K, .slice an 0 cn, .slice ab 0 cb] rfl ?_; intro wb hsb hgb hrb; have HB := Lib.hid hrb; have HG := Lib.hid hgb; clear hsb hgb hrb) | (refine wpList_load_row rfl 26 _ rfl w.heap.size rfl 26 #[.int .u8 K, .slice an 0 cn, .slice ab 0 cb] (0, 0) _ HB.out Try.underlying26 rfl (by kernel_rfl) ?_))
  refine (HMT.out wb HG.out).mono ?_
  rintro e w1 ⟨rfl, hg1⟩
  have HG1 := Lib.hid (grownBy_trans HG.out hg1)
  have HB1 := Lib.hid (HB.out.grown hg1)
  have c0 := Row.cell HB1.out 0
  simp at c0
  clear hg1
  go_upto_region 4 with fail
  obtain ⟨W2, hW2⟩ : ∃ W2, W2 = w1.alloc (.cells #[.int .u8 K] 5) := ⟨_, rfl⟩
  rw [← hW2]
  have hg2 : w1.grownBy W2 none := hW2 ▸ World.grownBy_alloc _ _ none
  have hr2 : BRow W2 w1.heap.size 5 [UInt8.ofNat k] := by
    rw [hW2]
    have e : rowB [UInt8.ofNat k] = #[.int .u8 K] := by unfold rowB; rw [List.map_singleton, HBV.out, HKK.out]
    show Row _ _ _ _
    rw [e]
    exact heap_alloc_new w1 _
  have ho2 : Own W2 w.heap.size 5 1 (some ⟨w1.heap.size, 0, none⟩) 1 1 (([UInt8.ofNat k] : List UInt8).map bval) := BRow.own hr2 (by have := HG1.out.size; omega) 1 rfl (by decide)
  have HO2 := Lib.hid ho2
  have HG2 := Lib.hid (grownBy_trans HG1.out hg2)
  have HB2 := Lib.hid (HB1.out.grown hg2)
  clear c0 hW2 hg2 hr2 ho2
  have c0 := Row.cell HB2.out 0
  simp at c0
  go_wp2_with fail
  go_ret2
  exact ⟨_, _, _, rfl, HO2.out, HG2.out⟩
set_option maxRecDepth 100000 in
set_option maxHeartbeats 4000000 in
theorem putReply_5 (K : Int) (k n cn m cb : Nat) (an ab : Option Addr) (ns : List Int) (bs : List UInt8) (w : World) (hK : K = (k : Int)) (hk : k < 256) (hns : Lies w an (IV ns)) (hbs : BLies w ab bs) (hn : ns.length = n) (hm : bs.length = m) (hnm : n ≤ maxLen) (hmm : m ≤ maxLen) (hmay : mayR ⟨k, ns, bs⟩ = true) (h5 : k = 5) :
    Calls Try.prog 9 #[.agg #[.int .u8 K, .slice an n cn, .slice ab m cb]] w fun e w' => ∃ a' n' c', e = .returned (.tuple #[.slice a' n' c', .int .i64 (putE ⟨k, ns, bs⟩)]) ∧ BOwn w' w.heap.size a' n' c' (putL ⟨k, ns, bs⟩) ∧ w.grownBy w' none := by
  have HNS := Lib.hid hns
  have HBS := Lib.hid hbs
  have HN := Lib.hid hn
  have HM := Lib.hid hm
  have hmt := fun W (hW : w.grownBy W none) => mayTell_n K k n cn m cb an ab ns bs W hK (hns.grown hW) hn hm hnm hmm
  have HMT := Lib.hid hmt
  clear hns hbs hn hm hmt
  have hL : putL ⟨k, ns, bs⟩ = encR ⟨k, ns, bs⟩ := if_pos hmay
  have hE : putE ⟨k, ns, bs⟩ = 0 := if_pos hmay
  rw [hL, hE]
  rw [hmay] at HMT
  have h1 : k ≠ 1 := by omega
  have hb1 : (K == 1) = false := by rw [beq_eq_false_iff_ne]; omega
  have hn0 : ¬ 0 < n := fun h => by rw [mayR_n h1 (by have := HN.out; omega)] at hmay; cases hmay
  obtain rfl : n = 0 := by omega
  have hb := List.eq_nil_of_length_eq_zero HN.out
  subst hb
  subst h5
  have hK5 : K = 5 := hK
  subst hK5
  rw [mayR_5, Bool.and_eq_true, decide_eq_true_eq, decide_eq_true_eq, HM.out] at hmay
  obtain ⟨hm1, hm2⟩ := hmay
  clear hK hb1 hn0 hL hE
  go_enter Try.func9, Try.ntmps9
  go_wp2_with (first | (refine wpList_boxed rfl rfl #[.int .u8 5, .slice an 0 cn, .slice ab m cb] rfl ?_; intro wb hsb hgb hrb; have HB := Lib.hid hrb; have HG := Lib.hid hgb; clear hsb hgb hrb) | (refine wpList_load_row rfl 26 _ rfl w.heap.size rfl 26 #[.int .u8 5, .slice an 0 cn, .slice ab m cb] (0, 0) _ HB.out Try.underlying26 rfl (by kernel_rfl) ?_))
  refine (HMT.out wb HG.out).mono ?_
  rintro e w1 ⟨rfl, hg1⟩
  have HG1 := Lib.hid (grownBy_trans HG.out hg1)
  have HB1 := Lib.hid (HB.out.grown hg1)
  have c0 := Row.cell HB1.out 0
  simp at c0
  clear hg1
  go_upto_region 4 with fail
  obtain ⟨W2, hW2⟩ : ∃ W2, W2 = w1.alloc (.cells #[.int .u8 5] 5) := ⟨_, rfl⟩
  rw [← hW2]
  have hg2 : w1.grownBy W2 none := hW2 ▸ World.grownBy_alloc _ _ none
  have hr2 : BRow W2 w1.heap.size 5 [5] := by rw [hW2]; exact heap_alloc_new w1 _
  have HG2 := Lib.hid (grownBy_trans HG1.out hg2)
  have HB2 := Lib.hid (HB1.out.grown hg2)
  obtain ⟨g1, hg1⟩ : ∃ g1, g1 = w1.heap.size := ⟨_, rfl⟩
  obtain ⟨bx, hbx⟩ : ∃ bx, bx = w.heap.size := ⟨_, rfl⟩
  rw [← hg1] at hr2 ⊢
  have HR2 := Lib.hid hr2
  rw [← hbx] at HB2 ⊢
  have HBX := Lib.hid hbx
  clear c0 hW2 hg2 hr2 hg1 hbx
  have c0 := Row.cell HB2.out 0
  simp at c0
  go_upto_region 13 with fail
  have hwm : IntKind.u32.wrap (m : Int) = (m : Int) := by rw [show IntKind.u32.wrap (m : Int) = (m : Int) % 4294967296 from rfl]; omega
  refine wp_normal ?_
  refine wp_regionX (fun u => W2.grownBy u none) 10 (by kernel_rfl) (grownBy_drewN W2 1 none) ?_
  refine wpX_take 0 (v := .slice (some ⟨g1, 0, none⟩) 1 1) (oi := { dst := some 39, op := Op.move (Operand.tmp 4), type := 24, pos := "wire.go:200", after := #[], guard := none }) (oL := { dst := some 4, op := Op.assign (Operand.tmp 48), type := 24, pos := "wire.go:200", after := #[{ on := 9, ground := Ground.data }, { on := 9, ground := Ground.chain }, { on := 0, ground := Ground.phase }, { on := 1, ground := Ground.phase }, { on := 2, ground := Ground.phase }, { on := 3, ground := Ground.phase }, { on := 4, ground := Ground.phase }, { on := 5, ground := Ground.phase }, { on := 6, ground := Ground.phase }, { on := 7, ground := Ground.phase }, { on := 8, ground := Ground.phase }, { on := 9, ground := Ground.phase }], guard := none }) (clo_grown _) rfl rfl rfl (by kernel_rfl) (by kernel_rfl) (by kernel_rfl) (by kernel_rfl) (by kernel_rfl) (fun _ _ _ h => by cases h.1) (YG.val (by rfl) (fun _ _ => by go_simp)) ?_
  simp only [Act.put, List.setIfInBounds_toArray, List.set_cons_zero, List.set_cons_succ]
  refine wpX_take 1 (v := .pointer (some ⟨bx, 2, none⟩)) (oi := { dst := some 40, op := Op.fieldAddr 26 (Operand.tmp 1) 2, type := 0, pos := "wire.go:200", after := #[], guard := none }) (oL := { dst := some 4, op := Op.assign (Operand.tmp 48), type := 24, pos := "wire.go:200", after := #[{ on := 9, ground := Ground.data }, { on := 9, ground := Ground.chain }, { on := 0, ground := Ground.phase }, { on := 1, ground := Ground.phase }, { on := 2, ground := Ground.phase }, { on := 3, ground := Ground.phase }, { on := 4, ground := Ground.phase }, { on := 5, ground := Ground.phase }, { on := 6, ground := Ground.phase }, { on := 7, ground := Ground.phase }, { on := 8, ground := Ground.phase }, { on := 9, ground := Ground.phase }], guard := none }) (clo_grown _) rfl rfl rfl (by kernel_rfl) (by kernel_rfl) (by kernel_rfl) (by kernel_rfl) (by kernel_rfl) (fun _ _ _ h => by cases h.1) (YG.val (by rfl) (fun _ _ => by go_simp)) ?_
  simp only [Act.put, List.setIfInBounds_toArray, List.set_cons_zero, List.set_cons_succ]
  refine wpX_take 2 (v := .slice ab m cb) (oi := { dst := some 41, op := Op.load 24 (Operand.tmp 40), type := 24, pos := "wire.go:200", after := #[{ on := 1, ground := Ground.data }], guard := none }) (oL := { dst := some 4, op := Op.assign (Operand.tmp 48), type := 24, pos := "wire.go:200", after := #[{ on := 9, ground := Ground.data }, { on := 9, ground := Ground.chain }, { on := 0, ground := Ground.phase }, { on := 1, ground := Ground.phase }, { on := 2, ground := Ground.phase }, { on := 3, ground := Ground.phase }, { on := 4, ground := Ground.phase }, { on := 5, ground := Ground.phase }, { on := 6, ground := Ground.phase }, { on := 7, ground := Ground.phase }, { on := 8, ground := Ground.phase }, { on := 9, ground := Ground.phase }], guard := none }) (clo_grown _) rfl rfl rfl (by kernel_rfl) (by kernel_rfl) (by kernel_rfl) (by kernel_rfl) (by kernel_rfl) (fun _ _ _ h => by cases h.1) (YG.val (by rfl) (fun u hu => by have c := Row.cell (HB2.out.grown hu) 2; simp at c; go_simp)) ?_
  simp only [Act.put, List.setIfInBounds_toArray, List.set_cons_zero, List.set_cons_succ]
  refine wpX_take 3 (v := .int .i64 (m : Int)) (oi := { dst := some 42, op := Op.call { callee := Callee.builtin Builtin.len, args := #[Operand.tmp 41], argTypes := #[24] }, type := 3, pos := "wire.go:200", after := #[{ on := 2, ground := Ground.data }], guard := none }) (oL := { dst := some 4, op := Op.assign (Operand.tmp 48), type := 24, pos := "wire.go:200", after := #[{ on := 9, ground := Ground.data }, { on := 9, ground := Ground.chain }, { on := 0, ground := Ground.phase }, { on := 1, ground := Ground.phase }, { on := 2, ground := Ground.phase }, { on := 3, ground := Ground.phase }, { on := 4, ground := Ground.phase }, { on := 5, ground := Ground.phase }, { on := 6, ground := Ground.phase }, { on := 7, ground := Ground.phase }, { on := 8, ground := Ground.phase }, { on := 9, ground := Ground.phase }], guard := none }) (clo_grown _) rfl rfl rfl (by kernel_rfl) (by kernel_rfl) (by kernel_rfl) (by kernel_rfl) (by kernel_rfl) (fun _ _ _ h => by cases h.1) (YG.val (by rfl) (fun _ _ => by go_simp)) ?_
  simp only [Act.put, List.setIfInBounds_toArray, List.set_cons_zero, List.set_cons_succ]
  refine wpX_take 4 (v := .int .u32 (m : Int)) (oi := { dst := some 43, op := Op.convert 3 39 (Operand.tmp 42), type := 39, pos := "wire.go:200", after := #[{ on := 3, ground := Ground.data }], guard := none }) (oL := { dst := some 4, op := Op.assign (Operand.tmp 48), type := 24, pos := "wire.go:200", after := #[{ on := 9, ground := Ground.data }, { on := 9, ground := Ground.chain }, { on := 0, ground := Ground.phase }, { on := 1, ground := Ground.phase }, { on := 2, ground := Ground.phase }, { on := 3, ground := Ground.phase }, { on := 4, ground := Ground.phase }, { on := 5, ground := Ground.phase }, { on := 6, ground := Ground.phase }, { on := 7, ground := Ground.phase }, { on := 8, ground := Ground.phase }, { on := 9, ground := Ground.phase }], guard := none }) (clo_grown _) rfl rfl rfl (by kernel_rfl) (by kernel_rfl) (by kernel_rfl) (by kernel_rfl) (by kernel_rfl) (fun _ _ _ h => by cases h.1) (YG.val (by rfl) (fun _ _ => by go_simp)) ?_
  simp only [Act.put, List.setIfInBounds_toArray, List.set_cons_zero, List.set_cons_succ]
  refine wpX_take 6 (v := .pointer (some ⟨bx, 2, none⟩)) (oi := { dst := some 45, op := Op.fieldAddr 26 (Operand.tmp 1) 2, type := 0, pos := "wire.go:200", after := #[], guard := none }) (oL := { dst := some 4, op := Op.assign (Operand.tmp 48), type := 24, pos := "wire.go:200", after := #[{ on := 9, ground := Ground.data }, { on := 9, ground := Ground.chain }, { on := 0, ground := Ground.phase }, { on := 1, ground := Ground.phase }, { on := 2, ground := Ground.phase }, { on := 3, ground := Ground.phase }, { on := 4, ground := Ground.phase }, { on := 5, ground := Ground.phase }, { on := 6, ground := Ground.phase }, { on := 7, ground := Ground.phase }, { on := 8, ground := Ground.phase }, { on := 9, ground := Ground.phase }], guard := none }) (clo_grown _) rfl rfl rfl (by kernel_rfl) (by kernel_rfl) (by kernel_rfl) (by kernel_rfl) (by kernel_rfl) (fun _ _ _ h => by cases h.1) (YG.val (by rfl) (fun _ _ => by go_simp)) ?_
  simp only [Act.put, List.setIfInBounds_toArray, List.set_cons_zero, List.set_cons_succ]
  refine wpX_take 7 (v := .slice ab m cb) (oi := { dst := some 46, op := Op.load 24 (Operand.tmp 45), type := 24, pos := "wire.go:200", after := #[{ on := 6, ground := Ground.data }], guard := none }) (oL := { dst := some 4, op := Op.assign (Operand.tmp 48), type := 24, pos := "wire.go:200", after := #[{ on := 9, ground := Ground.data }, { on := 9, ground := Ground.chain }, { on := 0, ground := Ground.phase }, { on := 1, ground := Ground.phase }, { on := 2, ground := Ground.phase }, { on := 3, ground := Ground.phase }, { on := 4, ground := Ground.phase }, { on := 5, ground := Ground.phase }, { on := 6, ground := Ground.phase }, { on := 7, ground := Ground.phase }, { on := 8, ground := Ground.phase }, { on := 9, ground := Ground.phase }], guard := none }) (clo_grown _) rfl rfl rfl (by kernel_rfl) (by kernel_rfl) (by kernel_rfl) (by kernel_rfl) (by kernel_rfl) (fun _ _ _ h => by cases h.1) (YG.val (by rfl) (fun u hu => by have c := Row.cell (HB2.out.grown hu) 2; simp at c; go_simp)) ?_
  simp only [Act.put, List.setIfInBounds_toArray, List.set_cons_zero, List.set_cons_succ]
  refine wpX_step 5 (o := { dst := some 44, op := Op.call { callee := Callee.value (Operand.func 24), args := #[Operand.tmp 43], argTypes := #[39] }, type := 24, pos := "wire.go:200", after := #[{ on := 4, ground := Ground.data }], guard := none }) rfl rfl (by kernel_rfl) (by rfl) (fun u2 hS2 K hK => ?_)
  have HK := Lib.hid hK
  have HS := Lib.hid hS2
  clear hK hS2
  refine wp_call_op (f := 24) (args := #[.int .u32 (m : Int)]) (w1 := u2) (by go_simp) ((big32_e m (by omega) u2).mono ?_)
  rintro e w3 ⟨gb, rfl, ho, g⟩
  have Gw3 := Lib.hid (grownBy_trans HS.out g)
  have Zw3 := Lib.hid HS.out.size
  have OB := Lib.hid ho
  clear ho
  refine ⟨_, rfl, HK.out (fun u => w3.grownBy u none) _ _ (World.grownBy.refl _ _) (fun u h => grownBy_trans Gw3.out h) (clo_grown w3) ?_⟩
  clear HK HS g
  simp only [Act.put, List.setIfInBounds_toArray, List.set_cons_zero, List.set_cons_succ]
  refine wpX_step 8 (o := { dst := some 47, op := Op.buildSlice 52 3 #[(0, Operand.tmp 39), (1, Operand.tmp 44), (2, Operand.tmp 46)], type := 52, pos := "wire.go:200", after := #[{ on := 0, ground := Ground.data }, { on := 5, ground := Ground.data }, { on := 7, ground := Ground.data }], guard := none }) rfl rfl (by kernel_rfl) (by rfl) (fun u2 hS2 K hK => ?_)
  have HK := Lib.hid hK
  have HS := Lib.hid hS2
  clear hK hS2
  refine wp_val_op (v := .slice (some ⟨u2.heap.size, 0, none⟩) 3 3) (w1 := u2.alloc (.cells #[.slice (some ⟨g1, 0, none⟩) 1 1, .slice (some ⟨gb, 0, none⟩) 4 4, .slice ab m cb] 24)) (by go_simp) ?_
  obtain ⟨w4, hW⟩ : ∃ w4, w4 = u2.alloc (.cells #[.slice (some ⟨g1, 0, none⟩) 1 1, .slice (some ⟨gb, 0, none⟩) 4 4, .slice ab m cb] 24) := ⟨_, rfl⟩
  have g : u2.grownBy w4 none := hW ▸ World.grownBy_alloc _ _ _
  have hr : Row w4 u2.heap.size 24 #[.slice (some ⟨g1, 0, none⟩) 1 1, .slice (some ⟨gb, 0, none⟩) 4 4, .slice ab m cb] := hW ▸ heap_alloc_new u2 _
  rw [← hW]
  obtain ⟨bl, hb⟩ : ∃ bl, bl = u2.heap.size := ⟨_, rfl⟩
  rw [← hb] at hr ⊢
  have Gw4 := Lib.hid (grownBy_trans HS.out g)
  have Zw4 := Lib.hid HS.out.size
  replace OB := Lib.hid (BOwn.grown (BOwn.grown OB.out HS.out) g)
  have RL := Lib.hid hr
  clear hr hb hW
  refine HK.out (fun u => w4.grownBy u none) _ _ (World.grownBy.refl _ _) (fun u h => grownBy_trans Gw4.out h) (clo_grown w4) ?_
  clear HK HS g
  simp only [Act.put, List.setIfInBounds_toArray, List.set_cons_zero, List.set_cons_succ]
  have hj : ∀ u, w4.grownBy u none → Calls Try.prog 23 #[.slice (some ⟨bl, 0, none⟩) 3 3] u fun e w' => ∃ a' m' c', e = .returned (.slice a' m' c') ∧ BOwn w' u.heap.size a' m' c' (5 :: (bigL 4 m ++ bs)) ∧ u.grownBy w' none := fun u hu => by
    have hl : LLies u (some ⟨bl, 0, none⟩) [⟨some ⟨g1, 0, none⟩, 1, 1⟩, ⟨some ⟨gb, 0, none⟩, 4, 4⟩, ⟨ab, m, cb⟩] [[5], bigL 4 m, bs] := by
      refine row_llies (RL.out.grown hu) rfl (fun i h h' => ?_)
      match i, h, h' with
      | 0, _, _ => exact ⟨(BRow.grown HR2.out (grownBy_trans (grownBy_trans Gw3.out Gw4.out) hu)).lies, rfl⟩
      | 1, _, _ => exact ⟨(BOwn.grown OB.out hu).lies, (bigL_length 4 m).symm⟩
      | 2, _, _ => exact ⟨HBS.out.grown (grownBy_trans HG2.out (grownBy_trans (grownBy_trans Gw3.out Gw4.out) hu)), HM.out.symm⟩
    have hm := HM.out
    have h := joinB_n (some ⟨bl, 0, none⟩) 3 3 _ _ u hl rfl (by simp [bigL_length]; omega) (by omega)
    have e : ([[5], bigL 4 m, bs] : List (List UInt8)).flatten = 5 :: (bigL 4 m ++ bs) := by simp
    rw [e] at h
    exact h
  have HJ := Lib.hid hj
  clear hj
  refine wpX_step 9 (o := { dst := some 48, op := Op.call { callee := Callee.value (Operand.func 23), args := #[Operand.tmp 47], argTypes := #[52] }, type := 24, pos := "wire.go:200", after := #[{ on := 8, ground := Ground.data }, { on := 5, ground := Ground.chain }], guard := none }) rfl rfl (by kernel_rfl) (by rfl) (fun u2 hS2 K hK => ?_)
  have HK := Lib.hid hK
  have HS := Lib.hid hS2
  clear hK hS2
  refine wp_call_op (f := 23) (args := #[.slice (some ⟨bl, 0, none⟩) 3 3]) (w1 := u2) (by go_simp) ((HJ.out u2 HS.out).mono ?_)
  rintro e w5 ⟨aj, mj, cj, rfl, ho, g⟩
  have Gw5 := Lib.hid (grownBy_trans HS.out g)
  have Zw5 := Lib.hid HS.out.size
  have OJ := Lib.hid ho
  have Z5 := Lib.hid (show w.heap.size ≤ u2.heap.size from Nat.le_trans HG2.out.size (Nat.le_trans (grownBy_trans Gw3.out Gw4.out).size HS.out.size))
  clear ho
  refine ⟨_, rfl, HK.out (fun u => w5.grownBy u none) _ _ (World.grownBy.refl _ _) (fun u h => grownBy_trans Gw5.out h) (clo_grown w5) ?_⟩
  clear HK HS g
  simp only [Act.put, List.setIfInBounds_toArray, List.set_cons_zero, List.set_cons_succ]
  refine wpX_last (oL := { dst := some 4, op := Op.assign (Operand.tmp 48), type := 24, pos := "wire.go:200", after := #[{ on := 9, ground := Ground.data }, { on := 9, ground := Ground.chain }, { on := 0, ground := Ground.phase }, { on := 1, ground := Ground.phase }, { on := 2, ground := Ground.phase }, { on := 3, ground := Ground.phase }, { on := 4, ground := Ground.phase }, { on := 5, ground := Ground.phase }, { on := 6, ground := Ground.phase }, { on := 7, ground := Ground.phase }, { on := 8, ground := Ground.phase }, { on := 9, ground := Ground.phase }], guard := none }) rfl (by kernel_rfl) (by kernel_rfl) (by rfl) (fun u4 hS4 K4 hK4 => ?_)
  refine wp_val_op (v := .slice aj mj cj) (w1 := u4) (by rfl) (hK4 _ _ ?_)
  simp only [Act.put, List.setIfInBounds_toArray, List.set_cons_zero, List.set_cons_succ]
  refine ⟨by first | rfl | trivial, ?_⟩
  obtain ⟨w6, h6⟩ : ∃ w6, w6 = u4 := ⟨_, rfl⟩
  rw [← h6] at hS4 ⊢
  have HO6 := Lib.hid (BOwn.mono (BOwn.grown OJ.out hS4) Z5.out)
  have HG6 := Lib.hid (grownBy_trans HG2.out (grownBy_trans (grownBy_trans (grownBy_trans Gw3.out Gw4.out) Gw5.out) hS4))
  clear h6 hS4 hK4
  go_wp2_with fail
  go_ret2
  refine ⟨_, _, _, rfl, ?_, HG6.out⟩
  rw [show encR ⟨5, [], bs⟩ = 5 :: (bigL 4 m ++ bs) from by rw [← HM.out]; rfl]
  exact HO6.out
theorem putReply_n (K : Int) (k n cn m cb : Nat) (an ab : Option Addr) (ns : List Int) (bs : List UInt8) (w : World) (hK : K = (k : Int)) (hk : k < 256) (hns : Lies w an (IV ns)) (hbs : BLies w ab bs) (hn : ns.length = n) (hm : bs.length = m) (hnm : n ≤ maxLen) (hmm : m ≤ maxLen) :
    Calls Try.prog 9 #[.agg #[.int .u8 K, .slice an n cn, .slice ab m cb]] w fun e w' => ∃ a' n' c', e = .returned (.tuple #[.slice a' n' c', .int .i64 (putE ⟨k, ns, bs⟩)]) ∧ BOwn w' w.heap.size a' n' c' (putL ⟨k, ns, bs⟩) ∧ w.grownBy w' none := by
  by_cases hmay : mayR ⟨k, ns, bs⟩ = true
  · by_cases h1 : k = 1
    · exact putReply_1 K k n cn m cb an ab ns bs w hK hk hns hbs hn hm hnm hmm hmay h1
    · by_cases h5 : k = 5
      · exact putReply_5 K k n cn m cb an ab ns bs w hK hk hns hbs hn hm hnm hmm hmay h5
      · exact putReply_k K k n cn m cb an ab ns bs w hK hk hns hbs hn hm hnm hmm hmay h1 h5
  · exact putReply_none K k n cn m cb an ab ns bs w hK hk hns hbs hn hm hnm hmm hmay
end Go.Proofs.Ytkdmebcfedehiaa
/- octet's reader: NewReader, take, Bytes, Left, End of a reader that was made. -/
namespace Go.Proofs.Ytkdmebcfedehiaa
open Go.RowKit

/-- a reader that was made: is it at fault, what is left -/
structure Rdr (w : World) (g : Nat) (f : Bool) (rem : List UInt8) (la : Option Addr) (lm lc : Nat) : Prop where
  row : Row w g 96 #[.slice la lm lc, .bool true, .bool f]
  lies : BLies w la rem
  len : rem.length = lm
  cap : lm ≤ lc
  big : lc ≤ maxLen
  apart : 0 < lm → ∀ b off, la = some ⟨b, off, none⟩ → b ≠ g
theorem Rdr.grown {w w' : World} {g : Nat} {f : Bool} {rem : List UInt8} {la : Option Addr} {lm lc : Nat} (h : Rdr w g f rem la lm lc) (hg : w.grownBy w' none) : Rdr w' g f rem la lm lc :=
  ⟨h.row.grown hg, h.lies.grown hg, h.len, h.cap, h.big, h.apart⟩

set_option maxRecDepth 100000 in
set_option maxHeartbeats 1000000 in
theorem newReader_n (a : Option Addr) (c n : Nat) (l : List UInt8) (w : World) (ha : BLies w a l) (hl : l.length = n) (hn : n ≤ 4000000100) :
    Calls Try.prog 30 #[.slice a n c] w fun e w' => ∃ g la lc, e = .returned (.pointer (some ⟨g, 0, none⟩)) ∧ w.heap.size ≤ g ∧ Rdr w' g false l la n lc ∧ w.grownBy w' none := by
  have HC := Lib.hid (clone_n a c n l w ha hl hn)
  have HL := Lib.hid hl
  clear ha hl
  go_enter Try.func30, Try.ntmps30
  go_wp2_with fail
  refine HC.out.mono ?_
  rintro e w1 ⟨a', c', rfl, ho, hg⟩
  have HO := Lib.hid ho
  have HG := Lib.hid hg
  clear ho hg
  go_wp2_with (refine wpList_boxed rfl rfl #[.slice a' n c', .bool true, .bool false] rfl ?_; intro w2 hs2 hg2 hr2; have HG2 := Lib.hid hg2; have HR2 := Lib.hid hr2; clear hs2 hg2 hr2)
  go_ret
  refine ⟨_, a', c', rfl, HG.out.size, ⟨HR2.out, (BOwn.lies HO.out).grown HG2.out, HL.out, HO.out.cap.1, HO.out.cap.2, fun h0 b off e => ?_⟩, grownBy_trans HG.out HG2.out⟩
  obtain ⟨g, e', _, h2⟩ := Own.block HO.out (by have := HO.out.cap.1; omega)
  rw [e'] at e
  injection e with e; injection e with e
  omega
theorem Rdr.set {w : World} {g : Nat} {f : Bool} {rem : List UInt8} {la : Option Addr} {lm lc : Nat} (h : Rdr w g f rem la lm lc) (k : Nat) (v : Value) : BLies (w.setCell ⟨g, k, none⟩ v) la rem := by
  intro i hi
  obtain ⟨b, off, e, hc⟩ := h.lies i hi
  refine ⟨b, off, e, ?_⟩
  have hne := h.apart (by have := h.len; omega) b off e
  exact (World.cell?_of_block (Below.heap_setCell _ _ _ _ hne)).trans hc

/-- what taking does: what comes, and how the reader is left -/
structure Took (w w' : World) (g : Nat) (f : Bool) (rem : List UInt8) (la : Option Addr) (a : Option Addr) (n : Nat) (p : List UInt8) (f' : Bool) (rem' : List UInt8) (la' : Option Addr) (lm' lc' : Nat) : Prop where
  lies : BLies w' a p
  len : p.length = n
  rdr : Rdr w' g f' rem' la' lm' lc'
  step : f' = false → f = false ∧ rem = p ++ rem'
  short : p.length + rem'.length ≤ rem.length
  grown : w.grownBy w' (some g)
  src : 0 < lm' → ∀ b off, la' = some ⟨b, off, none⟩ → ∃ o, la = some ⟨b, o, none⟩

/-- .. told behind the call -/
def TookP (w : World) (g : Nat) (f : Bool) (rem : List UInt8) (la : Option Addr) (e : Ending) (w' : World) : Prop :=
  ∃ a n c ok p f' rem' la' lm' lc', e = .returned (.tuple #[.slice a n c, .bool ok]) ∧ Took w w' g f rem la a n p f' rem' la' lm' lc'
theorem drop_lies {w : World} {b off : Nat} {l : List UInt8} (h : BLies w (some ⟨b, off, none⟩) l) (f : Nat) : BLies w (some ⟨b, off + f, none⟩) (l.drop f) := by
  intro k hk
  rw [List.length_drop] at hk
  obtain ⟨b', off', e, hc⟩ := h (f + k) (by omega)
  injection e with e; injection e with e1 e2
  subst e1; subst e2
  refine ⟨b, off + f, rfl, ?_⟩
  rw [Nat.add_assoc, hc]
  simp

set_option maxRecDepth 100000 in
set_option maxHeartbeats 4000000 in
theorem take_n (g : Nat) (f : Bool) (rem : List UInt8) (la : Option Addr) (lm lc : Nat) (x : Int) (w : World) (h : Rdr w g f rem la lm lc) :
    Calls Try.prog 56 #[.pointer (some ⟨g, 0, none⟩), .int .i64 x] w fun e w' => TookP w g f rem la e w' := by
  have c0 := Row.cell h.row 0
  have c1 := Row.cell h.row 1
  have c2 := Row.cell h.row 2
  have f0 := Row.frozen h.row 0
  have f2 := Row.frozen h.row 2
  simp at c0 c1 c2
  have H := Lib.hid h
  have hcap := h.cap
  have hbig := h.big
  clear h
  cases f with
  | true =>
    go_enter Try.func56, Try.ntmps56
    go_wp2_with fail
    go_ret2
    exact ⟨none, 0, 0, false, [], true, rem, la, lm, lc, rfl, BLies.nil _ _, rfl, H.out, fun h => (by cases h), by simp, World.grownBy.refl _ _, fun _ b off e => ⟨off, e⟩⟩
  | false =>
    by_cases hx : x < 0
    · have hd : decide (x < 0) = true := by simpa using hx
      go_enter Try.func56, Try.ntmps56
      go_wp2_with fail
      go_ret2
      refine ⟨none, 0, 0, false, [], true, rem, la, lm, lc, rfl, BLies.nil _ _, rfl, ⟨?_, H.out.set _ _, H.out.len, H.out.cap, H.out.big, H.out.apart⟩, fun h => (by cases h), by simp, grownBy_setCell _ _ _ _, fun _ b off e => ⟨off, e⟩⟩
      exact Row.setc H.out.row 2 (.bool true)
    · obtain ⟨n, rfl⟩ : ∃ n : Nat, x = (n : Int) := ⟨x.toNat, by omega⟩
      have hd : decide ((n : Int) < 0) = false := by simp
      by_cases hn : lm < n
      · have hd2 : decide ((lm : Int) < (n : Int)) = true := by simp; omega
        have hd3 : decide (lm < n) = true := by simp; omega
        go_enter Try.func56, Try.ntmps56
        go_wp2_with fail
        go_ret2
        refine ⟨none, 0, 0, false, [], true, rem, la, lm, lc, rfl, BLies.nil _ _, rfl, ⟨?_, H.out.set _ _, H.out.len, H.out.cap, H.out.big, H.out.apart⟩, fun h => (by cases h), by simp, grownBy_setCell _ _ _ _, fun _ b off e => ⟨off, e⟩⟩
        exact Row.setc H.out.row 2 (.bool true)
      · have hd2 : decide ((lm : Int) < (n : Int)) = false := by simp; omega
        have hd3 : decide (lm < n) = false := by simp; omega
        have hnc : n ≤ lc := by omega
        have hnl : n ≤ lm := by omega
        rcases Nat.eq_zero_or_pos n with rfl | hpos
        · have hrow : Row (w.setCell ⟨g, 0, none⟩ (.slice la lm lc)) g 96 #[.slice la lm lc, .bool true, .bool false] := Row.setc H.out.row 0 _
          have hadd0 : ∀ a : Addr, a.add 0 = a := fun a => by simp [Addr.add]
          have hm0 : la.map (fun a => a.add 0) = la := by cases la <;> simp [hadd0]
          have HROW := Lib.hid hrow
          clear hrow
          by_cases hc0 : lc = 0
          · subst hc0
            obtain rfl : lm = 0 := by omega
            go_enter Try.func56, Try.ntmps56
            go_wp2_with fail
            go_ret2
            exact ⟨la, 0, 0, true, [], false, rem, la, 0, 0, rfl, ⟨fun k hk => absurd hk (by simp), rfl, ⟨HROW.out, H.out.set _ _, H.out.len, H.out.cap, H.out.big, H.out.apart⟩, fun _ => ⟨rfl, rfl⟩, by simp, grownBy_setCell _ _ _ _, fun _ b off e => ⟨off, e⟩⟩⟩
          · go_enter Try.func56, Try.ntmps56
            go_wp2_with fail
            go_ret2
            exact ⟨la, 0, 0, true, [], false, rem, la, lm, lc, rfl, ⟨fun k hk => absurd hk (by simp), rfl, ⟨HROW.out, H.out.set _ _, H.out.len, H.out.cap, H.out.big, H.out.apart⟩, fun _ => ⟨rfl, rfl⟩, by simp, grownBy_setCell _ _ _ _, fun _ b off e => ⟨off, e⟩⟩⟩
        · obtain ⟨b, off, rfl⟩ := H.out.lies.addr (by have := H.out.len; omega)
          have hap := H.out.apart (by omega) b off rfl
          have hlen := H.out.len
          have htl : (rem.take n).length = n := by rw [List.length_take]; omega
          have hdl : (rem.drop n).length = lm - n := by rw [List.length_drop, hlen]
          have hadd : (⟨b, off, none⟩ : Addr).add n = ⟨b, off + n, none⟩ := by unfold Addr.add; split <;> simp_all
          have HTL := Lib.hid htl
          have HDL := Lib.hid hdl
          have HLEN := Lib.hid hlen
          by_cases hcn : lc = n
          · subst hcn
            obtain rfl : lm = lc := by omega
            have hsub : lm - lm = 0 := Nat.sub_self _
            clear htl hdl hlen hadd
            go_enter Try.func56, Try.ntmps56
            go_wp2_with fail
            go_ret2
            have hbs := H.out.set 0 (.slice (some ⟨b, off, none⟩) 0 0)
            refine ⟨some ⟨b, off, none⟩, lm, lm, true, rem.take lm, false, rem.drop lm, some ⟨b, off, none⟩, 0, 0, rfl, ⟨hbs.take lm, HTL.out, ⟨Row.setc H.out.row 0 _, fun k hk => absurd hk (by rw [HDL.out]; omega), by rw [HDL.out]; omega, Nat.le_refl _, by omega, fun h => absurd h (by omega)⟩, fun _ => ⟨rfl, (List.take_append_drop _ _).symm⟩, by rw [HTL.out, HDL.out, HLEN.out]; omega, grownBy_setCell _ _ _ _, fun h => absurd h (by omega)⟩⟩
          · have hsubl : (lm : Int) - (n : Int) = ((lm - n : Nat) : Int) := by omega
            clear htl hdl hlen
            go_enter Try.func56, Try.ntmps56
            go_wp2_with fail
            go_ret2
            have hbs := H.out.set 0 (.slice (some ⟨b, off + n, none⟩) (lm - n) (lc - n))
            refine ⟨some ⟨b, off, none⟩, n, n, true, rem.take n, false, rem.drop n, some ⟨b, off + n, none⟩, lm - n, lc - n, rfl, ⟨hbs.take n, HTL.out, ⟨Row.setc H.out.row 0 _, drop_lies hbs n, HDL.out, by omega, by omega, fun _ b' off' e => by injection e with e; injection e with e; omega⟩, fun _ => ⟨rfl, (List.take_append_drop _ _).symm⟩, by rw [HTL.out, HDL.out, HLEN.out]; omega, grownBy_setCell _ _ _ _, fun _ b' off' e => by injection e with e; injection e with e1 e2; subst e1; exact ⟨off, rfl⟩⟩⟩

/-- what Bytes does -/
def BytesP (w : World) (g : Nat) (f : Bool) (rem : List UInt8) (la : Option Addr) (e : Ending) (w' : World) : Prop :=
  ∃ a n c p f' rem' la' lm' lc', e = .returned (.slice a n c) ∧ BOwn w' w.heap.size a n c p ∧ Rdr w' g f' rem' la' lm' lc' ∧ (f' = false → f = false ∧ rem = p ++ rem') ∧ p.length + rem'.length ≤ rem.length ∧ w.grownBy w' (some g) ∧
    (0 < lm' → ∀ b off, la' = some ⟨b, off, none⟩ → ∃ o, la = some ⟨b, o, none⟩)

set_option maxRecDepth 100000 in
set_option maxHeartbeats 1000000 in
theorem bytes_n (g : Nat) (f : Bool) (rem : List UInt8) (la : Option Addr) (lm lc : Nat) (x : Int) (w : World) (h : Rdr w g f rem la lm lc) (hb : lm ≤ 4000000000) :
    Calls Try.prog 31 #[.pointer (some ⟨g, 0, none⟩), .int .i64 x] w fun e w' => BytesP w g f rem la e w' := by
  have HT := Lib.hid (take_n g f rem la lm lc x w h)
  have HLN := Lib.hid h.len
  clear h
  go_enter Try.func31, Try.ntmps31
  go_wp2_with fail
  refine HT.out.mono ?_
  rintro e w1 ⟨a, n, c, ok, p, f', rem', la', lm', lc', rfl, ht⟩
  have HK := Lib.hid ht
  have hs := ht.short
  have hl := ht.len
  have hln := HLN.out
  have hcl := clone_n a c n p w1 ht.lies ht.len (by omega)
  have HCL := Lib.hid hcl
  clear ht hs hl hln hcl
  go_wp2_with fail
  refine HCL.out.mono ?_
  rintro e w2 ⟨a2, c2, rfl, ho, hg⟩
  have HO := Lib.hid ho
  have HG := Lib.hid hg
  clear ho hg
  go_wp2_with fail
  go_ret
  exact ⟨a2, n, c2, p, f', rem', la', lm', lc', rfl, Own.mono HO.out HK.out.grown.size, HK.out.rdr.grown HG.out, HK.out.step, HK.out.short, grownBy_trans HK.out.grown (grownBy_some HG.out _), HK.out.src⟩

end Go.Proofs.Ytkdmebcfedehiaa
/- A list's middle handed on: b[lo:hi]. -/
namespace Go.Proofs.Ytkdmebcfedehiaa
open Go.RowKit

def midA (a : Option Addr) (f c : Nat) : Option Addr := if c = f then a else a.map (·.add f)
theorem run_mid (w : World) (a : Option Addr) (N c f h : Nat) (h1 : f ≤ h) (h2 : h ≤ c) :
    (Instr.slice 24 (.slice a N c) (some (.int .i64 (f : Int))) (some (.int .i64 (h : Int))) none).run Try.prog w = .ok (.slice (midA a f c) (h - f) (c - f)) w := by
  have hu : Try.prog.underlying 24 = some (.slice (Try.prog.elem 24)) := by kernel_rfl
  have hz : (sizeOf (Try.prog.elem 24)).run Try.prog w = .ok 1 w := by
    obtain ⟨i, hi, hz, hs, hb⟩ := elB.info
    have he : Try.prog.elem 24 = 5 := by kernel_rfl
    rw [he]
    simp [sizeOf, typeInfo, hi, hs]
  rw [run_slice_lh (P := Try.prog) w _ _ _ _ hu _ _ _ _ (by omega) (by omega) (by omega)]
  simp [hz, sliced, midA]
theorem run_mid_op (w : World) (ev : Operand → Value) {o : Oper} (x lo hi : Operand) (ho : o.op = .slice 24 x (some lo) (some hi) none) (a : Option Addr) (N c f h : Nat) (hx : ev x = .slice a N c) (hl : ev lo = .int .i64 (f : Int)) (hh : ev hi = .int .i64 (h : Int)) (h1 : f ≤ h) (h2 : h ≤ c) :
    (execOp ev o).run Try.prog w = .ok (.value (.slice (midA a f c) (h - f) (c - f))) w := by
  have hu : Try.prog.underlying 24 = some (.slice (Try.prog.elem 24)) := by kernel_rfl
  unfold execOp
  simp only [ho, Option.map_some, Option.map_none]
  simp only [Sem.run_bind, run_sliceAt_slice (P := Try.prog) w _ _ _ _ _ hu, hx, hl, hh]
  rw [run_mid w a N c f h h1 h2]
  rfl
theorem mid_lies {w : World} {a : Option Addr} {l : List UInt8} (ha : BLies w a l) (f r c : Nat) (h : f + r ≤ l.length) (hc : l.length ≤ c) : BLies w (midA a f c) ((l.drop f).take r) := by
  rcases Nat.eq_zero_or_pos r with h0 | h0
  · subst h0
    rw [List.take_zero]
    exact BLies.nil _ _
  · obtain ⟨b, o, rfl⟩ := BLies.addr ha (by omega)
    have hne : ¬ c = f := by omega
    have e : midA (some ⟨b, o, none⟩) f c = some ⟨b, o + f, none⟩ := by
      unfold midA
      rw [if_neg hne]
      show some ((⟨b, o, none⟩ : Addr).add f) = _
      congr 1
      unfold Addr.add
      split <;> simp_all
    rw [e]
    exact (drop_lies ha f).take r
theorem mid_len {l : List UInt8} {f r : Nat} (h : f + r ≤ l.length) : ((l.drop f).take r).length = r := by rw [List.length_take, List.length_drop]; omega
theorem run_mid_op2 (w : World) (ev : Operand → Value) {o : Oper} (x lo hi : Operand) (ho : o.op = .slice 24 x (some lo) (some hi) none) (a : Option Addr) (N c f r : Nat) (hx : ev x = .slice a N c) (hl : ev lo = .int .i64 (f : Int)) (hh : ev hi = .int .i64 ((f + r : Nat) : Int)) (h2 : f + r ≤ c) :
    (execOp ev o).run Try.prog w = .ok (.value (.slice (midA a f c) r (c - f))) w := by
  rw [run_mid_op w ev x lo hi ho a N c f (f + r) hx hl hh (by omega) h2, Nat.add_sub_cancel_left]
theorem wpList_valp {P : Program} {ops : Array Oper} {Q : Exit → Act → World → Prop} {o : Oper} {rest : List Oper} {a : Act} {w w1 : World} {v : Value} (hg : o.guard = none) (hr : (execOp a.eval o).run P w = .ok (.value v) w1) (h : wpList P ops Q rest (a.put o.dst v) w1) : wpList P ops Q (o :: rest) a w := by
  refine wpList_plain hg fun K hK => ?_
  unfold Oper.wp
  rw [hr, Oper.upon_value]
  exact hK _ _ h
end Go.Proofs.Ytkdmebcfedehiaa
/- wire.Reply: of all bytes. Printed by gens/wirereply.py. -/
namespace Go.Proofs.Ytkdmebcfedehiaa
open Go.RowKit

def rpOf : Except Nat Rp → Rp
  | .ok r => r
  | .error _ => noRp
def atOf {α : Type} : Except Nat α → Nat
  | .ok _ => 0
  | .error p => p
def erOf {α : Type} (c : Int) : Except Nat α → Int
  | .ok _ => 0
  | .error _ => c
/-- what Reply answers -/
def RepP (w : World) (d : Except Nat Rp) (e : Ending) (w' : World) : Prop :=
  ∃ an nn cn ab nb cb, e = .returned (.tuple #[.agg #[.int .u8 ((rpOf d).kind : Int), .slice an nn cn, .slice ab nb cb], .int .i64 (atOf d : Int), .int .i64 (erOf 201 d)]) ∧ IOwn w' w.heap.size an nn cn (rpOf d).nums ∧ BOwn w' w.heap.size ab nb cb (rpOf d).bytes ∧ w.grownBy w' none
theorem repP_err {w w' : World} (p : Nat) (q : Int) (hq : q = (p : Int)) (hg : w.grownBy w' none) : RepP w (.error p) (.returned (.tuple #[.agg #[.int .u8 0, .slice none 0 0, .slice none 0 0], .int .i64 q, .int .i64 201])) w' := by
  subst hq
  exact ⟨none, 0, 0, none, 0, 0, rfl, Own.nil _ _ _ _ _, Own.nil _ _ _ _ _, hg⟩
theorem info_rep : ∃ i z, Try.prog.info? 26 = some i ∧ i.zero = some z ∧ i.size = z.cells.size ∧ z = .agg #[.int .u8 0, .slice none 0 0, .slice none 0 0] := ⟨(Try.prog.info? 26).getD default, .agg #[.int .u8 0, .slice none 0 0, .slice none 0 0], by kernel_rfl, by kernel_rfl, by kernel_rfl, rfl⟩

theorem run_mid_op3 (w : World) (ev : Operand → Value) {o : Oper} (x lo hi : Operand) (ho : o.op = .slice 24 x (some lo) (some hi) none) (a : Option Addr) (N c f h r : Nat) (hx : ev x = .slice a N c) (hl : ev lo = .int .i64 (f : Int)) (hh : ev hi = .int .i64 (h : Int)) (h1 : f ≤ h) (h2 : h ≤ c) (hr : h - f = r) :
    (execOp ev o).run Try.prog w = .ok (.value (.slice (midA a f c) r (c - f))) w := by
  subst hr
  exact run_mid_op w ev x lo hi ho a N c f h hx hl hh h1 h2
theorem run_suf_op3 (w : World) (ev : Operand → Value) {o : Oper} (x l : Operand) (ho : o.op = .slice 24 x (some l) none none) (a : Option Addr) (N c m r : Nat) (hx : ev x = .slice a N c) (hh : ev l = .int .i64 (m : Int)) (hm : m ≤ N) (hr : N - m = r) :
    (execOp ev o).run Try.prog w = .ok (.value (.slice (midA a m c) r (c - m))) w := by
  subst hr
  have hu : Try.prog.underlying 24 = some (.slice (Try.prog.elem 24)) := by kernel_rfl
  have hz : (sizeOf (Try.prog.elem 24)).run Try.prog w = .ok 1 w := by
    obtain ⟨i, hi, hz, hs, hb⟩ := elB.info
    have he : Try.prog.elem 24 = 5 := by kernel_rfl
    rw [he]
    simp [sizeOf, typeInfo, hi, hs]
  unfold execOp
  simp only [ho, Option.map_some, Option.map_none]
  simp only [Sem.run_bind, run_sliceAt_slice (P := Try.prog) w _ _ _ _ _ hu, hx, hh]
  rw [run_slice_l (P := Try.prog) w _ _ _ _ hu _ _ (by omega) (by omega)]
  simp [hz, sliced, midA]
theorem suf_lies {w : World} {a : Option Addr} {l : List UInt8} (ha : BLies w a l) (f c : Nat) (h : f ≤ l.length) (hc : l.length ≤ c) : BLies w (midA a f c) (l.drop f) := by
  have h1 := mid_lies ha f (l.length - f) c (by omega) hc
  rwa [List.take_of_length_le (by rw [List.length_drop]; omega)] at h1

set_option maxRecDepth 100000 in
set_option maxHeartbeats 1000000 in
theorem fail_n (x : Int) (w : World) : Calls Try.prog 25 #[.int .i64 x] w fun e w' => e = .returned (.tuple #[.agg #[.int .u8 0, .slice none 0 0, .slice none 0 0], .int .i64 x, .int .i64 201]) ∧ w.grownBy w' none := by
  obtain ⟨ir, zr, hir, hirz, hirs, hz⟩ := info_rep
  subst hz
  go_enter Try.func25, Try.ntmps25
  go_wp2_with (first | (refine wpList_made rfl rfl hir hirz ?_; intro w1 hs1 hg1 hr1; have HG1 := Lib.hid hg1; have HR1 := Lib.hid (show Row w1 w.heap.size 26 #[.int .u8 0, .slice none 0 0, .slice none 0 0] from hr1); clear hs1 hg1 hr1) | (refine wpList_putrow rfl rfl w.heap.size rfl #[.int .u8 0, .slice none 0 0, .slice none 0 0] rfl HR1.out (by kernel_rfl) rfl (by simp [Value.oneCell']) ?_; intro W5 hg5 hr5; have HG5 := Lib.hid hg5; have HR5 := Lib.hid hr5; clear hg5 hr5))
  refine bodyPost_ret (results_ctt rfl _ _ w.heap.size 26 #[.int .u8 0, .slice none 0 0, .slice none 0 0] (0, 0) _ _ _ rfl rfl rfl HR5.out Try.underlying26 rfl (by kernel_rfl)) rfl ?_
  exact ⟨rfl, grownBy_old HG1.out HG5.out (Nat.le_refl _)⟩
set_option maxRecDepth 100000 in
set_option maxHeartbeats 4000000 in
theorem reply_empty (a : Option Addr) (n c : Nat) (l : List UInt8) (w : World) (hl : BLies w a l) (hn : l.length = n) (hnm : n ≤ 140737488355328) (h0 : n = 0) :
    Calls Try.prog 10 #[.slice a n c] w fun e w' => RepP w (decR l) e w' := by
  subst h0
  have hd : decR l = .error 0 := by unfold decR; rw [if_pos (.inl (List.eq_nil_of_length_eq_zero hn))]
  rw [hd]
  clear hl hn hnm hd
  obtain ⟨ir, zr, hir, hirz, hirs, hz⟩ := info_rep
  subst hz
  go_enter Try.func10, Try.ntmps10
  go_wp2_with (refine wpList_made rfl rfl hir hirz ?_; intro w1 hs1 hg1 hr1; have HS1 := Lib.hid hs1; have HG1 := Lib.hid hg1; have HR1 := Lib.hid (show Row w1 w.heap.size 26 #[.int .u8 0, .slice none 0 0, .slice none 0 0] from hr1); clear hs1 hg1 hr1)
  refine (fail_n 0 w1).mono ?_
  rintro e wf ⟨rfl, gf⟩
  have HTf := Lib.hid (HR1.out.grown gf)
  have HGf := Lib.hid (grownBy_trans HG1.out gf)
  clear gf
  go_wp2_with (refine wpList_putrow rfl rfl w.heap.size rfl #[.int .u8 0, .slice none 0 0, .slice none 0 0] rfl HTf.out (by kernel_rfl) rfl (by simp [Value.oneCell']) ?_; intro W5 hg5 hr5; have HG5 := Lib.hid hg5; have HR5 := Lib.hid hr5; clear hg5 hr5)
  refine bodyPost_ret (results_ctt rfl _ _ w.heap.size 26 #[.int .u8 0, .slice none 0 0, .slice none 0 0] (0, 0) _ _ _ rfl rfl rfl HR5.out Try.underlying26 rfl (by kernel_rfl)) rfl ?_
  exact repP_err (0) _ (rfl) (grownBy_old HGf.out HG5.out (Nat.le_refl _))
set_option maxRecDepth 100000 in
set_option maxHeartbeats 4000000 in
theorem reply_kind (a : Option Addr) (n c : Nat) (l : List UInt8) (w : World) (hl : BLies w a l) (hn : l.length = n) (hnm : n ≤ 140737488355328) (K : Int) (b off : Nat) (ha : a = some ⟨b, off, none⟩) (hK : K = ((l.getD 0 0).toNat : Int)) (h1 : 1 ≤ n) (hk : K < 1 ∨ 7 < K) :
    Calls Try.prog 10 #[.slice a n c] w fun e w' => RepP w (decR l) e w' := by
  have hd : decR l = .error 0 := by unfold decR; rw [if_pos (.inr (by omega))]
  rw [hd]
  have hce : ∀ W, w.grownBy W none → ∀ k, k < n → W.cell? ⟨b, off + k, none⟩ = some (.int .u8 ((l.getD k 0).toNat : Int)) := fun W hW k hk => by
    obtain ⟨b', off', e, h⟩ := bytes_cells (hl.grown hW) (by omega)
    rw [ha] at e
    injection e with e
    injection e with e1 e2
    subst e1; subst e2
    exact h k (by omega)
  have HC := Lib.hid hce
  have h00 : ((n : Int) == 0) = false := by rw [beq_eq_false_iff_ne]; omega
  have hK0 : ∀ W, w.grownBy W none → W.cell? ⟨b, off, none⟩ = some (.int .u8 K) := fun W hW => by rw [hK]; exact hce W hW 0 (by omega)
  have HK0 := Lib.hid hK0
  subst ha
  clear hce hK0
  clear hl hn hnm hd hK
  rcases (show K < 1 ∨ (¬ K < 1 ∧ 7 < K) by omega) with hk | ⟨hk, hk2⟩
  · have e1 : decide (K < 1) = true := decide_eq_true hk
    obtain ⟨ir, zr, hir, hirz, hirs, hz⟩ := info_rep
    subst hz
    go_enter Try.func10, Try.ntmps10
    go_upto_region 4 with (refine wpList_made rfl rfl hir hirz ?_; intro w1 hs1 hg1 hr1; have HS1 := Lib.hid hs1; have HG1 := Lib.hid hg1; have HR1 := Lib.hid (show Row w1 w.heap.size 26 #[.int .u8 0, .slice none 0 0, .slice none 0 0] from hr1); clear hs1 hg1 hr1)
    have k0 := HK0.out w1 HG1.out
    go_upto_region 5 with (refine wpList_fresh rfl rfl rfl rfl rfl hir hirz hirs #[.int .u8 K, .slice none 0 0, .slice none 0 0] rfl rfl rfl (by simp [Value.oneCell']) ?_; intro w2 hs2 hg2 hr2; have HS2 := Lib.hid hs2; have HG2 := Lib.hid (grownBy_trans HG1.out hg2); have HR2 := Lib.hid hr2; have HT2 := Lib.hid (HR1.out.grown hg2); have d0 := Row.cell hr2 0; simp at d0; clear k0 hs2 hg2 hr2)
    go_wp2_with fail
    refine (fail_n 0 w2).mono ?_
    rintro e wf ⟨rfl, gf⟩
    have HTf := Lib.hid (HT2.out.grown gf)
    have HGf := Lib.hid (grownBy_trans HG2.out gf)
    clear gf
    go_wp2_with (refine wpList_putrow rfl rfl w.heap.size rfl #[.int .u8 0, .slice none 0 0, .slice none 0 0] rfl HTf.out (by kernel_rfl) rfl (by simp [Value.oneCell']) ?_; intro W5 hg5 hr5; have HG5 := Lib.hid hg5; have HR5 := Lib.hid hr5; clear hg5 hr5)
    refine bodyPost_ret (results_ctt rfl _ _ w.heap.size 26 #[.int .u8 0, .slice none 0 0, .slice none 0 0] (0, 0) _ _ _ rfl rfl rfl HR5.out Try.underlying26 rfl (by kernel_rfl)) rfl ?_
    exact repP_err (0) _ (rfl) (grownBy_old HGf.out HG5.out (Nat.le_refl _))
  · have e1 : decide (K < 1) = false := decide_eq_false hk
    have e2 : decide (7 < K) = true := decide_eq_true hk2
    obtain ⟨ir, zr, hir, hirz, hirs, hz⟩ := info_rep
    subst hz
    go_enter Try.func10, Try.ntmps10
    go_upto_region 4 with (refine wpList_made rfl rfl hir hirz ?_; intro w1 hs1 hg1 hr1; have HS1 := Lib.hid hs1; have HG1 := Lib.hid hg1; have HR1 := Lib.hid (show Row w1 w.heap.size 26 #[.int .u8 0, .slice none 0 0, .slice none 0 0] from hr1); clear hs1 hg1 hr1)
    have k0 := HK0.out w1 HG1.out
    go_upto_region 5 with (refine wpList_fresh rfl rfl rfl rfl rfl hir hirz hirs #[.int .u8 K, .slice none 0 0, .slice none 0 0] rfl rfl rfl (by simp [Value.oneCell']) ?_; intro w2 hs2 hg2 hr2; have HS2 := Lib.hid hs2; have HG2 := Lib.hid (grownBy_trans HG1.out hg2); have HR2 := Lib.hid hr2; have HT2 := Lib.hid (HR1.out.grown hg2); have d0 := Row.cell hr2 0; simp at d0; clear k0 hs2 hg2 hr2)
    go_wp2_with fail
    refine (fail_n 0 w2).mono ?_
    rintro e wf ⟨rfl, gf⟩
    have HTf := Lib.hid (HT2.out.grown gf)
    have HGf := Lib.hid (grownBy_trans HG2.out gf)
    clear gf
    go_wp2_with (refine wpList_putrow rfl rfl w.heap.size rfl #[.int .u8 0, .slice none 0 0, .slice none 0 0] rfl HTf.out (by kernel_rfl) rfl (by simp [Value.oneCell']) ?_; intro W5 hg5 hr5; have HG5 := Lib.hid hg5; have HR5 := Lib.hid hr5; clear hg5 hr5)
    refine bodyPost_ret (results_ctt rfl _ _ w.heap.size 26 #[.int .u8 0, .slice none 0 0, .slice none 0 0] (0, 0) _ _ _ rfl rfl rfl HR5.out Try.underlying26 rfl (by kernel_rfl)) rfl ?_
    exact repP_err (0) _ (rfl) (grownBy_old HGf.out HG5.out (Nat.le_refl _))
set_option maxRecDepth 100000 in
set_option maxHeartbeats 4000000 in
theorem reply_plain (a : Option Addr) (n c : Nat) (l : List UInt8) (w : World) (hl : BLies w a l) (hn : l.length = n) (hnm : n ≤ 140737488355328) (K : Int) (b off : Nat) (ha : a = some ⟨b, off, none⟩) (hK : K = ((l.getD 0 0).toNat : Int)) (h1 : 1 ≤ n) (hk1 : 1 ≤ K) (hk7 : K ≤ 7) (hx1 : K ≠ 1) (hx5 : K ≠ 5) :
    Calls Try.prog 10 #[.slice a n c] w fun e w' => RepP w (decR l) e w' := by
  have hne : ¬ (l = [] ∨ (l.getD 0 0).toNat < 1 ∨ 7 < (l.getD 0 0).toNat) := fun h => by
    rcases h with h | h
    · rw [h] at hn; simp at hn; omega
    · omega
  have f1 : decide (K < 1) = false := decide_eq_false (by omega)
  have f7 : decide (7 < K) = false := decide_eq_false (by omega)
  have g1 : (K == 1) = false := by rw [beq_eq_false_iff_ne]; exact hx1
  have g5 : (K == 5) = false := by rw [beq_eq_false_iff_ne]; exact hx5
  have hce : ∀ W, w.grownBy W none → ∀ k, k < n → W.cell? ⟨b, off + k, none⟩ = some (.int .u8 ((l.getD k 0).toNat : Int)) := fun W hW k hk => by
    obtain ⟨b', off', e, h⟩ := bytes_cells (hl.grown hW) (by omega)
    rw [ha] at e
    injection e with e
    injection e with e1 e2
    subst e1; subst e2
    exact h k (by omega)
  have HC := Lib.hid hce
  have h00 : ((n : Int) == 0) = false := by rw [beq_eq_false_iff_ne]; omega
  have hK0 : ∀ W, w.grownBy W none → W.cell? ⟨b, off, none⟩ = some (.int .u8 K) := fun W hW => by rw [hK]; exact hce W hW 0 (by omega)
  have HK0 := Lib.hid hK0
  subst ha
  clear hce hK0
  by_cases hn1 : n = 1
  · subst hn1
    have hd : decR l = .ok ⟨(l.getD 0 0).toNat, [], []⟩ := by unfold decR; rw [if_neg hne, if_neg (by omega), if_neg (by omega), if_neg (by omega)]
    rw [hd]
    have HKK := Lib.hid hK
    clear hl hn hnm hd hK h1 hk1 hk7 hne hx1 hx5
    obtain ⟨ir, zr, hir, hirz, hirs, hz⟩ := info_rep
    subst hz
    go_enter Try.func10, Try.ntmps10
    go_upto_region 4 with (refine wpList_made rfl rfl hir hirz ?_; intro w1 hs1 hg1 hr1; have HS1 := Lib.hid hs1; have HG1 := Lib.hid hg1; have HR1 := Lib.hid (show Row w1 w.heap.size 26 #[.int .u8 0, .slice none 0 0, .slice none 0 0] from hr1); clear hs1 hg1 hr1)
    have k0 := HK0.out w1 HG1.out
    go_upto_region 5 with (refine wpList_fresh rfl rfl rfl rfl rfl hir hirz hirs #[.int .u8 K, .slice none 0 0, .slice none 0 0] rfl rfl rfl (by simp [Value.oneCell']) ?_; intro w2 hs2 hg2 hr2; have HS2 := Lib.hid hs2; have HG2 := Lib.hid (grownBy_trans HG1.out hg2); have HR2 := Lib.hid hr2; have HT2 := Lib.hid (HR1.out.grown hg2); have d0 := Row.cell hr2 0; simp at d0; clear k0 hs2 hg2 hr2)
    obtain ⟨bo, hbo⟩ : ∃ bo, bo = w1.heap.size := ⟨_, rfl⟩
    have HBO := Lib.hid (show w.heap.size < bo by rw [hbo]; exact HR1.out.lt)
    rw [← hbo] at HR2 d0 ⊢
    clear hbo
    go_upto_region 32 with fail
    go_wp2_with (first | (refine wpList_load_row rfl 26 _ rfl bo rfl 26 #[.int .u8 K, .slice none 0 0, .slice none 0 0] (0, 0) _ HR2.out Try.underlying26 rfl (by kernel_rfl) ?_) | (refine wpList_putrow rfl rfl w.heap.size rfl #[.int .u8 K, .slice none 0 0, .slice none 0 0] rfl HT2.out (by kernel_rfl) rfl (by simp [Value.oneCell']) ?_; intro W5 hg5 hr5; have HG5 := Lib.hid hg5; have HR5 := Lib.hid hr5; clear hg5 hr5))
    refine bodyPost_ret (results_ctt rfl _ _ w.heap.size 26 #[.int .u8 K, .slice none 0 0, .slice none 0 0] (0, 0) _ _ _ rfl rfl rfl HR5.out Try.underlying26 rfl (by kernel_rfl)) rfl ?_
    have hE : Ending.returned (.tuple #[.agg #[.int .u8 K, .slice none 0 0, .slice none 0 0], .int .i64 0, .int .i64 0]) = .returned (.tuple #[.agg #[.int .u8 ((l.getD 0 0).toNat : Int), .slice none 0 0, .slice none 0 0], .int .i64 0, .int .i64 0]) := by rw [HKK.out]
    exact ⟨none, 0, 0, none, 0, 0, hE, Own.nil _ _ _ _ _, Own.nil _ _ _ _ _, grownBy_old HG2.out HG5.out (Nat.le_refl _)⟩
  · have hd : decR l = .error 1 := by unfold decR; rw [if_neg hne, if_neg (by omega), if_neg (by omega), if_pos (by omega)]
    rw [hd]
    have hne1 : ((n : Int) != 1) = true := by rw [bne_iff_ne]; omega
    have hmin : (if (1 : Int) < (n : Int) then (1 : Int) else (n : Int)) = 1 := by split <;> omega
    have hmin2 : min (n : Int) 1 = 1 := by omega
    clear hl hn hd hK hk1 hk7 hne hx1 hx5 hn1
    obtain ⟨ir, zr, hir, hirz, hirs, hz⟩ := info_rep
    subst hz
    go_enter Try.func10, Try.ntmps10
    go_upto_region 4 with (refine wpList_made rfl rfl hir hirz ?_; intro w1 hs1 hg1 hr1; have HS1 := Lib.hid hs1; have HG1 := Lib.hid hg1; have HR1 := Lib.hid (show Row w1 w.heap.size 26 #[.int .u8 0, .slice none 0 0, .slice none 0 0] from hr1); clear hs1 hg1 hr1)
    have k0 := HK0.out w1 HG1.out
    go_upto_region 5 with (refine wpList_fresh rfl rfl rfl rfl rfl hir hirz hirs #[.int .u8 K, .slice none 0 0, .slice none 0 0] rfl rfl rfl (by simp [Value.oneCell']) ?_; intro w2 hs2 hg2 hr2; have HS2 := Lib.hid hs2; have HG2 := Lib.hid (grownBy_trans HG1.out hg2); have HR2 := Lib.hid hr2; have HT2 := Lib.hid (HR1.out.grown hg2); have d0 := Row.cell hr2 0; simp at d0; clear k0 hs2 hg2 hr2)
    go_wp2_with fail
    refine (fail_n 1 w2).mono ?_
    rintro e wf ⟨rfl, gf⟩
    have HTf := Lib.hid (HT2.out.grown gf)
    have HGf := Lib.hid (grownBy_trans HG2.out gf)
    clear gf
    go_wp2_with (refine wpList_putrow rfl rfl w.heap.size rfl #[.int .u8 0, .slice none 0 0, .slice none 0 0] rfl HTf.out (by kernel_rfl) rfl (by simp [Value.oneCell']) ?_; intro W5 hg5 hr5; have HG5 := Lib.hid hg5; have HR5 := Lib.hid hr5; clear hg5 hr5)
    refine bodyPost_ret (results_ctt rfl _ _ w.heap.size 26 #[.int .u8 0, .slice none 0 0, .slice none 0 0] (0, 0) _ _ _ rfl rfl rfl HR5.out Try.underlying26 rfl (by kernel_rfl)) rfl ?_
    exact repP_err (1) _ (rfl) (grownBy_old HGf.out HG5.out (Nat.le_refl _))
set_option maxRecDepth 100000 in
set_option maxHeartbeats 4000000 in
theorem reply_5a (a : Option Addr) (n c : Nat) (l : List UInt8) (w : World) (hl : BLies w a l) (hn : l.length = n) (hnm : n ≤ 140737488355328) (hc : n ≤ c) (b off : Nat) (ha : a = some ⟨b, off, none⟩) (hK : (5 : Int) = ((l.getD 0 0).toNat : Int)) (h1 : 1 ≤ n) (hs : n < 5) :
    Calls Try.prog 10 #[.slice a n c] w fun e w' => RepP w (decR l) e w' := by
  have hne : ¬ (l = [] ∨ (l.getD 0 0).toNat < 1 ∨ 7 < (l.getD 0 0).toNat) := fun h => by
    rcases h with h | h
    · rw [h] at hn; simp at hn; omega
    · omega
  have hce : ∀ W, w.grownBy W none → ∀ k, k < n → W.cell? ⟨b, off + k, none⟩ = some (.int .u8 ((l.getD k 0).toNat : Int)) := fun W hW k hk => by
    obtain ⟨b', off', e, h⟩ := bytes_cells (hl.grown hW) (by omega)
    rw [ha] at e
    injection e with e
    injection e with e1 e2
    subst e1; subst e2
    exact h k (by omega)
  have HC := Lib.hid hce
  have h00 : ((n : Int) == 0) = false := by rw [beq_eq_false_iff_ne]; omega
  have hK0 : ∀ W, w.grownBy W none → W.cell? ⟨b, off, none⟩ = some (.int .u8 5) := fun W hW => by rw [hK]; exact hce W hW 0 (by omega)
  have HK0 := Lib.hid hK0
  subst ha
  clear hce hK0
  have hd : decR l = .error n := by unfold decR; rw [if_neg hne, if_neg (by omega), if_pos (by omega), if_pos (by omega), hn]
  rw [hd]
  have e5 : decide ((n : Int) < 5) = true := decide_eq_true (by omega)
  have e52 : decide (n < 5) = true := decide_eq_true hs
  clear hl hn hd hK hne hc hs
  obtain ⟨ir, zr, hir, hirz, hirs, hz⟩ := info_rep
  subst hz
  go_enter Try.func10, Try.ntmps10
  go_upto_region 4 with (refine wpList_made rfl rfl hir hirz ?_; intro w1 hs1 hg1 hr1; have HS1 := Lib.hid hs1; have HG1 := Lib.hid hg1; have HR1 := Lib.hid (show Row w1 w.heap.size 26 #[.int .u8 0, .slice none 0 0, .slice none 0 0] from hr1); clear hs1 hg1 hr1)
  have k0 := HK0.out w1 HG1.out
  go_upto_region 5 with (refine wpList_fresh rfl rfl rfl rfl rfl hir hirz hirs #[.int .u8 5, .slice none 0 0, .slice none 0 0] rfl rfl rfl (by simp [Value.oneCell']) ?_; intro w2 hs2 hg2 hr2; have HS2 := Lib.hid hs2; have HG2 := Lib.hid (grownBy_trans HG1.out hg2); have HR2 := Lib.hid hr2; have HT2 := Lib.hid (HR1.out.grown hg2); have d0 := Row.cell hr2 0; simp at d0; clear k0 hs2 hg2 hr2)
  go_wp2_with fail
  refine (fail_n (n : Int) w2).mono ?_
  rintro e wf ⟨rfl, gf⟩
  have HTf := Lib.hid (HT2.out.grown gf)
  have HGf := Lib.hid (grownBy_trans HG2.out gf)
  clear gf
  go_wp2_with (refine wpList_putrow rfl rfl w.heap.size rfl #[.int .u8 0, .slice none 0 0, .slice none 0 0] rfl HTf.out (by kernel_rfl) rfl (by simp [Value.oneCell']) ?_; intro W5 hg5 hr5; have HG5 := Lib.hid hg5; have HR5 := Lib.hid hr5; clear hg5 hr5)
  refine bodyPost_ret (results_ctt rfl _ _ w.heap.size 26 #[.int .u8 0, .slice none 0 0, .slice none 0 0] (0, 0) _ _ _ rfl rfl rfl HR5.out Try.underlying26 rfl (by kernel_rfl)) rfl ?_
  exact repP_err (n) _ (rfl) (grownBy_old HGf.out HG5.out (Nat.le_refl _))
set_option maxRecDepth 100000 in
set_option maxHeartbeats 4000000 in
theorem reply_5b (a : Option Addr) (n c : Nat) (l : List UInt8) (w : World) (hl : BLies w a l) (hn : l.length = n) (hnm : n ≤ 140737488355328) (hc : n ≤ c) (b off : Nat) (ha : a = some ⟨b, off, none⟩) (hK : (5 : Int) = ((l.getD 0 0).toNat : Int)) (h1 : 1 ≤ n) (hs : 5 ≤ n) (hX0 : getN l 1 4 < 1) :
    Calls Try.prog 10 #[.slice a n c] w fun e w' => RepP w (decR l) e w' := by
  have hne : ¬ (l = [] ∨ (l.getD 0 0).toNat < 1 ∨ 7 < (l.getD 0 0).toNat) := fun h => by
    rcases h with h | h
    · rw [h] at hn; simp at hn; omega
    · omega
  have hce : ∀ W, w.grownBy W none → ∀ k, k < n → W.cell? ⟨b, off + k, none⟩ = some (.int .u8 ((l.getD k 0).toNat : Int)) := fun W hW k hk => by
    obtain ⟨b', off', e, h⟩ := bytes_cells (hl.grown hW) (by omega)
    rw [ha] at e
    injection e with e
    injection e with e1 e2
    subst e1; subst e2
    exact h k (by omega)
  have HC := Lib.hid hce
  have h00 : ((n : Int) == 0) = false := by rw [beq_eq_false_iff_ne]; omega
  have hK0 : ∀ W, w.grownBy W none → W.cell? ⟨b, off, none⟩ = some (.int .u8 5) := fun W hW => by rw [hK]; exact hce W hW 0 (by omega)
  have HK0 := Lib.hid hK0
  subst ha
  clear hce hK0
  have hd : decR l = .error 1 := by unfold decR; rw [if_neg hne, if_neg (by omega), if_pos (by omega), if_neg (by omega), if_pos (by omega)]
  rw [hd]
  obtain ⟨X, hX⟩ : ∃ X, X = getN l 1 4 := ⟨_, rfl⟩
  have hXlt : X < 4294967296 := by rw [hX]; exact getN_lt l 1
  have hsm : ∀ W, w.grownBy W none → Calls Try.prog 27 #[.slice (midA (some ⟨b, off, none⟩) 1 c) 4 (c - 1)] W fun e w' => e = .returned (.tuple #[.int .u32 (X : Int), .int .i64 0]) ∧ W = w' := fun W hW => by
    have h := small32_any (midA (some ⟨b, off, none⟩) 1 c) (c - 1) 4 ((l.drop 1).take 4) W (mid_lies (hl.grown hW) 1 4 c (by omega) (by omega)) (mid_len (by omega)) (by decide)
    rw [if_neg (by omega), if_neg (by omega)] at h
    rw [hX]
    exact h
  have HSM := Lib.hid hsm
  clear hsm
  have e5 : decide ((n : Int) < 5) = false := decide_eq_false (by omega)
  have e52 : decide (n < 5) = false := decide_eq_false (by omega)
  have hw : IntKind.i64.wrap (X : Int) = (X : Int) := IntWalk.i64_in _ (by omega)
  have x1 : decide ((X : Int) < 1) = true := decide_eq_true (by omega)
  have x2 : decide (X < 1) = true := decide_eq_true (by omega)
  clear hl hn hd hK hne
  obtain ⟨ir, zr, hir, hirz, hirs, hz⟩ := info_rep
  subst hz
  go_enter Try.func10, Try.ntmps10
  go_upto_region 4 with (refine wpList_made rfl rfl hir hirz ?_; intro w1 hs1 hg1 hr1; have HS1 := Lib.hid hs1; have HG1 := Lib.hid hg1; have HR1 := Lib.hid (show Row w1 w.heap.size 26 #[.int .u8 0, .slice none 0 0, .slice none 0 0] from hr1); clear hs1 hg1 hr1)
  have k0 := HK0.out w1 HG1.out
  go_upto_region 5 with (refine wpList_fresh rfl rfl rfl rfl rfl hir hirz hirs #[.int .u8 5, .slice none 0 0, .slice none 0 0] rfl rfl rfl (by simp [Value.oneCell']) ?_; intro w2 hs2 hg2 hr2; have HS2 := Lib.hid hs2; have HG2 := Lib.hid (grownBy_trans HG1.out hg2); have HR2 := Lib.hid hr2; have HT2 := Lib.hid (HR1.out.grown hg2); have d0 := Row.cell hr2 0; simp at d0; clear k0 hs2 hg2 hr2)
  go_upto_region 24 with fail
  go_upto_region 26 with (first
    | (refine wpList_valp rfl (run_mid_op3 _ _ (.tmp 129) _ _ rfl (some ⟨b, off, none⟩) n c 1 5 4 rfl rfl rfl (by omega) (by omega) rfl) ?_)
    | (go_at_call 27; refine (HSM.out w2 HG2.out).mono ?_; rintro e w' ⟨rfl, rfl⟩))
  go_wp2_with fail
  refine (fail_n 1 w2).mono ?_
  rintro e wf ⟨rfl, gf⟩
  have HTf := Lib.hid (HT2.out.grown gf)
  have HGf := Lib.hid (grownBy_trans HG2.out gf)
  clear gf
  go_wp2_with (refine wpList_putrow rfl rfl w.heap.size rfl #[.int .u8 0, .slice none 0 0, .slice none 0 0] rfl HTf.out (by kernel_rfl) rfl (by simp [Value.oneCell']) ?_; intro W5 hg5 hr5; have HG5 := Lib.hid hg5; have HR5 := Lib.hid hr5; clear hg5 hr5)
  refine bodyPost_ret (results_ctt rfl _ _ w.heap.size 26 #[.int .u8 0, .slice none 0 0, .slice none 0 0] (0, 0) _ _ _ rfl rfl rfl HR5.out Try.underlying26 rfl (by kernel_rfl)) rfl ?_
  exact repP_err (1) _ (rfl) (grownBy_old HGf.out HG5.out (Nat.le_refl _))
set_option maxRecDepth 100000 in
set_option maxHeartbeats 4000000 in
theorem reply_5c (a : Option Addr) (n c : Nat) (l : List UInt8) (w : World) (hl : BLies w a l) (hn : l.length = n) (hnm : n ≤ 140737488355328) (hc : n ≤ c) (b off : Nat) (ha : a = some ⟨b, off, none⟩) (hK : (5 : Int) = ((l.getD 0 0).toNat : Int)) (h1 : 1 ≤ n) (hs : 5 ≤ n) (hX0 : 131072 < getN l 1 4) :
    Calls Try.prog 10 #[.slice a n c] w fun e w' => RepP w (decR l) e w' := by
  have hne : ¬ (l = [] ∨ (l.getD 0 0).toNat < 1 ∨ 7 < (l.getD 0 0).toNat) := fun h => by
    rcases h with h | h
    · rw [h] at hn; simp at hn; omega
    · omega
  have hce : ∀ W, w.grownBy W none → ∀ k, k < n → W.cell? ⟨b, off + k, none⟩ = some (.int .u8 ((l.getD k 0).toNat : Int)) := fun W hW k hk => by
    obtain ⟨b', off', e, h⟩ := bytes_cells (hl.grown hW) (by omega)
    rw [ha] at e
    injection e with e
    injection e with e1 e2
    subst e1; subst e2
    exact h k (by omega)
  have HC := Lib.hid hce
  have h00 : ((n : Int) == 0) = false := by rw [beq_eq_false_iff_ne]; omega
  have hK0 : ∀ W, w.grownBy W none → W.cell? ⟨b, off, none⟩ = some (.int .u8 5) := fun W hW => by rw [hK]; exact hce W hW 0 (by omega)
  have HK0 := Lib.hid hK0
  subst ha
  clear hce hK0
  have hd : decR l = .error 1 := by unfold decR; rw [if_neg hne, if_neg (by omega), if_pos (by omega), if_neg (by omega), if_pos (by omega)]
  rw [hd]
  obtain ⟨X, hX⟩ : ∃ X, X = getN l 1 4 := ⟨_, rfl⟩
  have hXlt : X < 4294967296 := by rw [hX]; exact getN_lt l 1
  have hsm : ∀ W, w.grownBy W none → Calls Try.prog 27 #[.slice (midA (some ⟨b, off, none⟩) 1 c) 4 (c - 1)] W fun e w' => e = .returned (.tuple #[.int .u32 (X : Int), .int .i64 0]) ∧ W = w' := fun W hW => by
    have h := small32_any (midA (some ⟨b, off, none⟩) 1 c) (c - 1) 4 ((l.drop 1).take 4) W (mid_lies (hl.grown hW) 1 4 c (by omega) (by omega)) (mid_len (by omega)) (by decide)
    rw [if_neg (by omega), if_neg (by omega)] at h
    rw [hX]
    exact h
  have HSM := Lib.hid hsm
  clear hsm
  have e5 : decide ((n : Int) < 5) = false := decide_eq_false (by omega)
  have e52 : decide (n < 5) = false := decide_eq_false (by omega)
  have hw : IntKind.i64.wrap (X : Int) = (X : Int) := IntWalk.i64_in _ (by omega)
  have x1 : decide ((X : Int) < 1) = false := decide_eq_false (by omega)
  have x2 : decide (X < 1) = false := decide_eq_false (by omega)
  have x3 : decide ((131072 : Int) < (X : Int)) = true := decide_eq_true (by omega)
  have x4 : decide (131072 < X) = true := decide_eq_true (by omega)
  clear hl hn hd hK hne
  obtain ⟨ir, zr, hir, hirz, hirs, hz⟩ := info_rep
  subst hz
  go_enter Try.func10, Try.ntmps10
  go_upto_region 4 with (refine wpList_made rfl rfl hir hirz ?_; intro w1 hs1 hg1 hr1; have HS1 := Lib.hid hs1; have HG1 := Lib.hid hg1; have HR1 := Lib.hid (show Row w1 w.heap.size 26 #[.int .u8 0, .slice none 0 0, .slice none 0 0] from hr1); clear hs1 hg1 hr1)
  have k0 := HK0.out w1 HG1.out
  go_upto_region 5 with (refine wpList_fresh rfl rfl rfl rfl rfl hir hirz hirs #[.int .u8 5, .slice none 0 0, .slice none 0 0] rfl rfl rfl (by simp [Value.oneCell']) ?_; intro w2 hs2 hg2 hr2; have HS2 := Lib.hid hs2; have HG2 := Lib.hid (grownBy_trans HG1.out hg2); have HR2 := Lib.hid hr2; have HT2 := Lib.hid (HR1.out.grown hg2); have d0 := Row.cell hr2 0; simp at d0; clear k0 hs2 hg2 hr2)
  go_upto_region 24 with fail
  go_upto_region 26 with (first
    | (refine wpList_valp rfl (run_mid_op3 _ _ (.tmp 129) _ _ rfl (some ⟨b, off, none⟩) n c 1 5 4 rfl rfl rfl (by omega) (by omega) rfl) ?_)
    | (go_at_call 27; refine (HSM.out w2 HG2.out).mono ?_; rintro e w' ⟨rfl, rfl⟩))
  go_wp2_with fail
  refine (fail_n 1 w2).mono ?_
  rintro e wf ⟨rfl, gf⟩
  have HTf := Lib.hid (HT2.out.grown gf)
  have HGf := Lib.hid (grownBy_trans HG2.out gf)
  clear gf
  go_wp2_with (refine wpList_putrow rfl rfl w.heap.size rfl #[.int .u8 0, .slice none 0 0, .slice none 0 0] rfl HTf.out (by kernel_rfl) rfl (by simp [Value.oneCell']) ?_; intro W5 hg5 hr5; have HG5 := Lib.hid hg5; have HR5 := Lib.hid hr5; clear hg5 hr5)
  refine bodyPost_ret (results_ctt rfl _ _ w.heap.size 26 #[.int .u8 0, .slice none 0 0, .slice none 0 0] (0, 0) _ _ _ rfl rfl rfl HR5.out Try.underlying26 rfl (by kernel_rfl)) rfl ?_
  exact repP_err (1) _ (rfl) (grownBy_old HGf.out HG5.out (Nat.le_refl _))
set_option maxRecDepth 100000 in
set_option maxHeartbeats 4000000 in
theorem reply_5d1 (a : Option Addr) (n c : Nat) (l : List UInt8) (w : World) (hl : BLies w a l) (hn : l.length = n) (hnm : n ≤ 140737488355328) (hc : n ≤ c) (b off : Nat) (ha : a = some ⟨b, off, none⟩) (hK : (5 : Int) = ((l.getD 0 0).toNat : Int)) (h1 : 1 ≤ n) (hs : 5 ≤ n) (hX0 : 1 ≤ getN l 1 4 ∧ getN l 1 4 ≤ 131072) (hnX : n < 5 + getN l 1 4) :
    Calls Try.prog 10 #[.slice a n c] w fun e w' => RepP w (decR l) e w' := by
  have hne : ¬ (l = [] ∨ (l.getD 0 0).toNat < 1 ∨ 7 < (l.getD 0 0).toNat) := fun h => by
    rcases h with h | h
    · rw [h] at hn; simp at hn; omega
    · omega
  have hce : ∀ W, w.grownBy W none → ∀ k, k < n → W.cell? ⟨b, off + k, none⟩ = some (.int .u8 ((l.getD k 0).toNat : Int)) := fun W hW k hk => by
    obtain ⟨b', off', e, h⟩ := bytes_cells (hl.grown hW) (by omega)
    rw [ha] at e
    injection e with e
    injection e with e1 e2
    subst e1; subst e2
    exact h k (by omega)
  have HC := Lib.hid hce
  have h00 : ((n : Int) == 0) = false := by rw [beq_eq_false_iff_ne]; omega
  have hK0 : ∀ W, w.grownBy W none → W.cell? ⟨b, off, none⟩ = some (.int .u8 5) := fun W hW => by rw [hK]; exact hce W hW 0 (by omega)
  have HK0 := Lib.hid hK0
  subst ha
  clear hce hK0
  have hd : decR l = .error (min n (5 + getN l 1 4)) := by unfold decR; rw [if_neg hne, if_neg (by omega), if_pos (by omega), if_neg (by omega), if_neg (by omega), if_pos (by omega), hn]
  rw [hd]
  obtain ⟨X, hX⟩ : ∃ X, X = getN l 1 4 := ⟨_, rfl⟩
  have hXlt : X < 4294967296 := by rw [hX]; exact getN_lt l 1
  have hsm : ∀ W, w.grownBy W none → Calls Try.prog 27 #[.slice (midA (some ⟨b, off, none⟩) 1 c) 4 (c - 1)] W fun e w' => e = .returned (.tuple #[.int .u32 (X : Int), .int .i64 0]) ∧ W = w' := fun W hW => by
    have h := small32_any (midA (some ⟨b, off, none⟩) 1 c) (c - 1) 4 ((l.drop 1).take 4) W (mid_lies (hl.grown hW) 1 4 c (by omega) (by omega)) (mid_len (by omega)) (by decide)
    rw [if_neg (by omega), if_neg (by omega)] at h
    rw [hX]
    exact h
  have HSM := Lib.hid hsm
  clear hsm
  have e5 : decide ((n : Int) < 5) = false := decide_eq_false (by omega)
  have e52 : decide (n < 5) = false := decide_eq_false (by omega)
  have hw : IntKind.i64.wrap (X : Int) = (X : Int) := IntWalk.i64_in _ (by omega)
  have x1 : decide ((X : Int) < 1) = false := decide_eq_false (by omega)
  have x2 : decide (X < 1) = false := decide_eq_false (by omega)
  have x3 : decide ((131072 : Int) < (X : Int)) = false := decide_eq_false (by omega)
  have x4 : decide (131072 < X) = false := decide_eq_false (by omega)
  rw [← hX] at hnX hX0 ⊢
  have hXb : X ≤ 131072 := hX0.2
  rw [show min n (5 + X) = n from by omega]
  have hmin : decide (5 + (X : Int) < (n : Int)) = false := decide_eq_false (by omega)
  have hmin2 : decide (5 + X < n) = false := decide_eq_false (by omega)
  have hnd : ((n : Int) != 5 + (X : Int)) = true := by rw [bne_iff_ne]; omega
  clear hl hn hd hK hne hX hX0 hXlt
  obtain ⟨ir, zr, hir, hirz, hirs, hz⟩ := info_rep
  subst hz
  go_enter Try.func10, Try.ntmps10
  go_upto_region 4 with (refine wpList_made rfl rfl hir hirz ?_; intro w1 hs1 hg1 hr1; have HS1 := Lib.hid hs1; have HG1 := Lib.hid hg1; have HR1 := Lib.hid (show Row w1 w.heap.size 26 #[.int .u8 0, .slice none 0 0, .slice none 0 0] from hr1); clear hs1 hg1 hr1)
  have k0 := HK0.out w1 HG1.out
  go_upto_region 5 with (refine wpList_fresh rfl rfl rfl rfl rfl hir hirz hirs #[.int .u8 5, .slice none 0 0, .slice none 0 0] rfl rfl rfl (by simp [Value.oneCell']) ?_; intro w2 hs2 hg2 hr2; have HS2 := Lib.hid hs2; have HG2 := Lib.hid (grownBy_trans HG1.out hg2); have HR2 := Lib.hid hr2; have HT2 := Lib.hid (HR1.out.grown hg2); have d0 := Row.cell hr2 0; simp at d0; clear k0 hs2 hg2 hr2)
  go_upto_region 24 with fail
  go_upto_region 26 with (first
    | (refine wpList_valp rfl (run_mid_op3 _ _ (.tmp 129) _ _ rfl (some ⟨b, off, none⟩) n c 1 5 4 rfl rfl rfl (by omega) (by omega) rfl) ?_)
    | (go_at_call 27; refine (HSM.out w2 HG2.out).mono ?_; rintro e w' ⟨rfl, rfl⟩))
  go_wp2_with fail
  refine (fail_n (n : Int) w2).mono ?_
  rintro e wf ⟨rfl, gf⟩
  have HTf := Lib.hid (HT2.out.grown gf)
  have HGf := Lib.hid (grownBy_trans HG2.out gf)
  clear gf
  go_wp2_with (refine wpList_putrow rfl rfl w.heap.size rfl #[.int .u8 0, .slice none 0 0, .slice none 0 0] rfl HTf.out (by kernel_rfl) rfl (by simp [Value.oneCell']) ?_; intro W5 hg5 hr5; have HG5 := Lib.hid hg5; have HR5 := Lib.hid hr5; clear hg5 hr5)
  refine bodyPost_ret (results_ctt rfl _ _ w.heap.size 26 #[.int .u8 0, .slice none 0 0, .slice none 0 0] (0, 0) _ _ _ rfl rfl rfl HR5.out Try.underlying26 rfl (by kernel_rfl)) rfl ?_
  exact repP_err (n) _ (rfl) (grownBy_old HGf.out HG5.out (Nat.le_refl _))
set_option maxRecDepth 100000 in
set_option maxHeartbeats 4000000 in
theorem reply_5d2 (a : Option Addr) (n c : Nat) (l : List UInt8) (w : World) (hl : BLies w a l) (hn : l.length = n) (hnm : n ≤ 140737488355328) (hc : n ≤ c) (b off : Nat) (ha : a = some ⟨b, off, none⟩) (hK : (5 : Int) = ((l.getD 0 0).toNat : Int)) (h1 : 1 ≤ n) (hs : 5 ≤ n) (hX0 : 1 ≤ getN l 1 4 ∧ getN l 1 4 ≤ 131072) (hnX : 5 + getN l 1 4 < n) :
    Calls Try.prog 10 #[.slice a n c] w fun e w' => RepP w (decR l) e w' := by
  have hne : ¬ (l = [] ∨ (l.getD 0 0).toNat < 1 ∨ 7 < (l.getD 0 0).toNat) := fun h => by
    rcases h with h | h
    · rw [h] at hn; simp at hn; omega
    · omega
  have hce : ∀ W, w.grownBy W none → ∀ k, k < n → W.cell? ⟨b, off + k, none⟩ = some (.int .u8 ((l.getD k 0).toNat : Int)) := fun W hW k hk => by
    obtain ⟨b', off', e, h⟩ := bytes_cells (hl.grown hW) (by omega)
    rw [ha] at e
    injection e with e
    injection e with e1 e2
    subst e1; subst e2
    exact h k (by omega)
  have HC := Lib.hid hce
  have h00 : ((n : Int) == 0) = false := by rw [beq_eq_false_iff_ne]; omega
  have hK0 : ∀ W, w.grownBy W none → W.cell? ⟨b, off, none⟩ = some (.int .u8 5) := fun W hW => by rw [hK]; exact hce W hW 0 (by omega)
  have HK0 := Lib.hid hK0
  subst ha
  clear hce hK0
  have hd : decR l = .error (min n (5 + getN l 1 4)) := by unfold decR; rw [if_neg hne, if_neg (by omega), if_pos (by omega), if_neg (by omega), if_neg (by omega), if_pos (by omega), hn]
  rw [hd]
  obtain ⟨X, hX⟩ : ∃ X, X = getN l 1 4 := ⟨_, rfl⟩
  have hXlt : X < 4294967296 := by rw [hX]; exact getN_lt l 1
  have hsm : ∀ W, w.grownBy W none → Calls Try.prog 27 #[.slice (midA (some ⟨b, off, none⟩) 1 c) 4 (c - 1)] W fun e w' => e = .returned (.tuple #[.int .u32 (X : Int), .int .i64 0]) ∧ W = w' := fun W hW => by
    have h := small32_any (midA (some ⟨b, off, none⟩) 1 c) (c - 1) 4 ((l.drop 1).take 4) W (mid_lies (hl.grown hW) 1 4 c (by omega) (by omega)) (mid_len (by omega)) (by decide)
    rw [if_neg (by omega), if_neg (by omega)] at h
    rw [hX]
    exact h
  have HSM := Lib.hid hsm
  clear hsm
  have e5 : decide ((n : Int) < 5) = false := decide_eq_false (by omega)
  have e52 : decide (n < 5) = false := decide_eq_false (by omega)
  have hw : IntKind.i64.wrap (X : Int) = (X : Int) := IntWalk.i64_in _ (by omega)
  have x1 : decide ((X : Int) < 1) = false := decide_eq_false (by omega)
  have x2 : decide (X < 1) = false := decide_eq_false (by omega)
  have x3 : decide ((131072 : Int) < (X : Int)) = false := decide_eq_false (by omega)
  have x4 : decide (131072 < X) = false := decide_eq_false (by omega)
  rw [← hX] at hnX hX0 ⊢
  have hXb : X ≤ 131072 := hX0.2
  rw [show min n (5 + X) = 5 + X from by omega]
  have hmin : decide (5 + (X : Int) < (n : Int)) = true := decide_eq_true (by omega)
  have hmin2 : decide (5 + X < n) = true := decide_eq_true (by omega)
  have hnd : ((n : Int) != 5 + (X : Int)) = true := by rw [bne_iff_ne]; omega
  clear hl hn hd hK hne hX hX0 hXlt
  obtain ⟨ir, zr, hir, hirz, hirs, hz⟩ := info_rep
  subst hz
  go_enter Try.func10, Try.ntmps10
  go_upto_region 4 with (refine wpList_made rfl rfl hir hirz ?_; intro w1 hs1 hg1 hr1; have HS1 := Lib.hid hs1; have HG1 := Lib.hid hg1; have HR1 := Lib.hid (show Row w1 w.heap.size 26 #[.int .u8 0, .slice none 0 0, .slice none 0 0] from hr1); clear hs1 hg1 hr1)
  have k0 := HK0.out w1 HG1.out
  go_upto_region 5 with (refine wpList_fresh rfl rfl rfl rfl rfl hir hirz hirs #[.int .u8 5, .slice none 0 0, .slice none 0 0] rfl rfl rfl (by simp [Value.oneCell']) ?_; intro w2 hs2 hg2 hr2; have HS2 := Lib.hid hs2; have HG2 := Lib.hid (grownBy_trans HG1.out hg2); have HR2 := Lib.hid hr2; have HT2 := Lib.hid (HR1.out.grown hg2); have d0 := Row.cell hr2 0; simp at d0; clear k0 hs2 hg2 hr2)
  go_upto_region 24 with fail
  go_upto_region 26 with (first
    | (refine wpList_valp rfl (run_mid_op3 _ _ (.tmp 129) _ _ rfl (some ⟨b, off, none⟩) n c 1 5 4 rfl rfl rfl (by omega) (by omega) rfl) ?_)
    | (go_at_call 27; refine (HSM.out w2 HG2.out).mono ?_; rintro e w' ⟨rfl, rfl⟩))
  go_wp2_with fail
  refine (fail_n (5 + (X : Int)) w2).mono ?_
  rintro e wf ⟨rfl, gf⟩
  have HTf := Lib.hid (HT2.out.grown gf)
  have HGf := Lib.hid (grownBy_trans HG2.out gf)
  clear gf
  go_wp2_with (refine wpList_putrow rfl rfl w.heap.size rfl #[.int .u8 0, .slice none 0 0, .slice none 0 0] rfl HTf.out (by kernel_rfl) rfl (by simp [Value.oneCell']) ?_; intro W5 hg5 hr5; have HG5 := Lib.hid hg5; have HR5 := Lib.hid hr5; clear hg5 hr5)
  refine bodyPost_ret (results_ctt rfl _ _ w.heap.size 26 #[.int .u8 0, .slice none 0 0, .slice none 0 0] (0, 0) _ _ _ rfl rfl rfl HR5.out Try.underlying26 rfl (by kernel_rfl)) rfl ?_
  exact repP_err (5 + X) _ (by omega) (grownBy_old HGf.out HG5.out (Nat.le_refl _))
set_option maxRecDepth 100000 in
set_option maxHeartbeats 4000000 in
theorem reply_5e (a : Option Addr) (n c : Nat) (l : List UInt8) (w : World) (hl : BLies w a l) (hn : l.length = n) (hnm : n ≤ 140737488355328) (hc : n ≤ c) (b off : Nat) (ha : a = some ⟨b, off, none⟩) (hK : (5 : Int) = ((l.getD 0 0).toNat : Int)) (h1 : 1 ≤ n) (hs : 5 ≤ n) (hX0 : 1 ≤ getN l 1 4 ∧ getN l 1 4 ≤ 131072) (hnX : n = 5 + getN l 1 4) :
    Calls Try.prog 10 #[.slice a n c] w fun e w' => RepP w (decR l) e w' := by
  have hne : ¬ (l = [] ∨ (l.getD 0 0).toNat < 1 ∨ 7 < (l.getD 0 0).toNat) := fun h => by
    rcases h with h | h
    · rw [h] at hn; simp at hn; omega
    · omega
  have hce : ∀ W, w.grownBy W none → ∀ k, k < n → W.cell? ⟨b, off + k, none⟩ = some (.int .u8 ((l.getD k 0).toNat : Int)) := fun W hW k hk => by
    obtain ⟨b', off', e, h⟩ := bytes_cells (hl.grown hW) (by omega)
    rw [ha] at e
    injection e with e
    injection e with e1 e2
    subst e1; subst e2
    exact h k (by omega)
  have HC := Lib.hid hce
  have h00 : ((n : Int) == 0) = false := by rw [beq_eq_false_iff_ne]; omega
  have hK0 : ∀ W, w.grownBy W none → W.cell? ⟨b, off, none⟩ = some (.int .u8 5) := fun W hW => by rw [hK]; exact hce W hW 0 (by omega)
  have HK0 := Lib.hid hK0
  subst ha
  clear hce hK0
  have hd : decR l = .ok ⟨5, [], l.drop 5⟩ := by unfold decR; rw [if_neg hne, if_neg (by omega), if_pos (by omega), if_neg (by omega), if_neg (by omega), if_neg (by omega)]
  rw [hd]
  obtain ⟨X, hX⟩ : ∃ X, X = getN l 1 4 := ⟨_, rfl⟩
  have hXlt : X < 4294967296 := by rw [hX]; exact getN_lt l 1
  have hsm : ∀ W, w.grownBy W none → Calls Try.prog 27 #[.slice (midA (some ⟨b, off, none⟩) 1 c) 4 (c - 1)] W fun e w' => e = .returned (.tuple #[.int .u32 (X : Int), .int .i64 0]) ∧ W = w' := fun W hW => by
    have h := small32_any (midA (some ⟨b, off, none⟩) 1 c) (c - 1) 4 ((l.drop 1).take 4) W (mid_lies (hl.grown hW) 1 4 c (by omega) (by omega)) (mid_len (by omega)) (by decide)
    rw [if_neg (by omega), if_neg (by omega)] at h
    rw [hX]
    exact h
  have HSM := Lib.hid hsm
  clear hsm
  have e5 : decide ((n : Int) < 5) = false := decide_eq_false (by omega)
  have e52 : decide (n < 5) = false := decide_eq_false (by omega)
  have hw : IntKind.i64.wrap (X : Int) = (X : Int) := IntWalk.i64_in _ (by omega)
  have x1 : decide ((X : Int) < 1) = false := decide_eq_false (by omega)
  have x2 : decide (X < 1) = false := decide_eq_false (by omega)
  have x3 : decide ((131072 : Int) < (X : Int)) = false := decide_eq_false (by omega)
  have x4 : decide (131072 < X) = false := decide_eq_false (by omega)
  rw [← hX] at hnX hX0
  have hXb : X ≤ 131072 := hX0.2
  have hcl : ∀ W, w.grownBy W none → _ := fun W hW => clone_n (midA (some ⟨b, off, none⟩) 5 c) (c - 5) X (l.drop 5) W (suf_lies (hl.grown hW) 5 c (by omega) (by omega)) (by rw [List.length_drop]; omega) (by omega)
  have HCL := Lib.hid hcl
  have hnd : ((n : Int) != 5 + (X : Int)) = false := by rw [bne_eq_false_iff_eq]; omega
  have HN5 := Lib.hid (show n - 5 = X by omega)
  clear hl hn hd hK hne hX hX0 hXlt hcl hnX
  obtain ⟨ir, zr, hir, hirz, hirs, hz⟩ := info_rep
  subst hz
  go_enter Try.func10, Try.ntmps10
  go_upto_region 4 with (refine wpList_made rfl rfl hir hirz ?_; intro w1 hs1 hg1 hr1; have HS1 := Lib.hid hs1; have HG1 := Lib.hid hg1; have HR1 := Lib.hid (show Row w1 w.heap.size 26 #[.int .u8 0, .slice none 0 0, .slice none 0 0] from hr1); clear hs1 hg1 hr1)
  have k0 := HK0.out w1 HG1.out
  go_upto_region 5 with (refine wpList_fresh rfl rfl rfl rfl rfl hir hirz hirs #[.int .u8 5, .slice none 0 0, .slice none 0 0] rfl rfl rfl (by simp [Value.oneCell']) ?_; intro w2 hs2 hg2 hr2; have HS2 := Lib.hid hs2; have HG2 := Lib.hid (grownBy_trans HG1.out hg2); have HR2 := Lib.hid hr2; have HT2 := Lib.hid (HR1.out.grown hg2); have d0 := Row.cell hr2 0; simp at d0; clear k0 hs2 hg2 hr2)
  go_upto_region 24 with fail
  go_upto_region 26 with (first
    | (refine wpList_valp rfl (run_mid_op3 _ _ (.tmp 129) _ _ rfl (some ⟨b, off, none⟩) n c 1 5 4 rfl rfl rfl (by omega) (by omega) rfl) ?_)
    | (go_at_call 27; refine (HSM.out w2 HG2.out).mono ?_; rintro e w' ⟨rfl, rfl⟩))
  go_upto_region 31 with fail
  clear hw
  go_wp2_with (refine wpList_valp rfl (run_suf_op3 _ _ (.tmp 167) (.tmp 168) rfl (some ⟨b, off, none⟩) n c 5 X rfl rfl (by omega) HN5.out) ?_)
  refine (HCL.out w2 HG2.out).mono ?_
  rintro e w3 ⟨a', c', rfl, hown3, hg3⟩
  have hs1 := HS1.out
  have hz2 := HG2.out.size
  have HO3 := Lib.hid hown3
  have HG3 := Lib.hid (grownBy_trans HG2.out hg3)
  have HR3 := Lib.hid (HR2.out.grown hg3)
  have HT3 := Lib.hid (HT2.out.grown hg3)
  have e2 := Row.cell HR3.out 2
  have f2 := Row.frozen HR3.out 2
  simp at e2
  have hb2 := HR2.out.lt
  obtain ⟨bo, hbo⟩ : ∃ bo, bo = w1.heap.size := ⟨_, rfl⟩
  rw [← hbo] at HR3 e2 f2 hb2 ⊢
  have hbw : w.heap.size < bo := by omega
  clear hbo hown3 hg3 d0 hs1 hz2
  go_upto_region 32 with fail
  obtain ⟨W4, hW4⟩ : ∃ W4, W4 = w3.setCell ⟨bo, 2, none⟩ (.slice a' X c') := ⟨_, rfl⟩
  rw [← hW4]
  have hg4 : w3.grownBy W4 (some bo) := hW4 ▸ grownBy_setCell _ _ _ _
  have HR4 := Lib.hid (show Row W4 bo 26 #[.int .u8 5, .slice none 0 0, .slice a' X c'] from hW4 ▸ Row.setc HR3.out 2 (.slice a' X c'))
  have HT4 := Lib.hid (HT3.out.grownNe hg4 (by omega))
  have HG4 := Lib.hid (grownBy_old HG3.out hg4 (by omega))
  have ho4 : BOwn W4 w2.heap.size a' X c' (l.drop 5) := Own.ch HO3.out (Ch.ofSome (S := fun k => k = bo) hg4 rfl) (fun h0 g e h => by
    have := (Own.inn HO3.out (g := g) ⟨h0, e⟩).1
    omega)
  have HO4 := Lib.hid ho4
  clear ho4 hg4 hW4 e2 f2 HR3 HT3 HG3 HO3 HR2 HT2 HR1
  go_wp2_with (first | (refine wpList_load_row rfl 26 _ rfl bo rfl 26 #[.int .u8 5, .slice none 0 0, (.slice a' X c')] (0, 0) _ HR4.out Try.underlying26 rfl (by kernel_rfl) ?_) | (refine wpList_putrow rfl rfl w.heap.size rfl #[.int .u8 5, .slice none 0 0, (.slice a' X c')] rfl HT4.out (by kernel_rfl) rfl (by simp [Value.oneCell']) ?_; intro W5 hg5 hr5; have HG5 := Lib.hid hg5; have HR5 := Lib.hid hr5; clear hg5 hr5))
  refine bodyPost_ret (results_ctt rfl _ _ w.heap.size 26 #[.int .u8 5, .slice none 0 0, (.slice a' X c')] (0, 0) _ _ _ rfl rfl rfl HR5.out Try.underlying26 rfl (by kernel_rfl)) rfl ?_
  have ho5 := Own.ch HO4.out (Ch.ofSome (S := fun k => k = w.heap.size) HG5.out rfl) (fun h0 g e h => by
    have := (Own.inn HO4.out (g := g) ⟨h0, e⟩).1
    omega)
  exact ⟨none, 0, 0, _, _, _, rfl, Own.nil _ _ _ _ _, Own.mono ho5 HG2.out.size, grownBy_old HG4.out HG5.out (Nat.le_refl _)⟩
end Go.Proofs.Ytkdmebcfedehiaa
