/- Helpers and contracts of the proofs over this seat: WireRepP, WireRepG, WireRepH, WireRepI, RegY. Each states what a function of the program answers, or is plain Lean; its conditions stand in each statement. -/
import Derived.Test.YtkdmebcfedehiaaPtAA
import Derived.Test.YtkdmebcfedehiaaPtAB
set_option linter.unusedVariables false
/- wire.PutReply: of every reply. Printed by gens/wirerep.py. -/
namespace Go.Proofs.Ytkdmebcfedehiaa
open Go.RowKit
def oLWireRepP0 : Oper := { dst := some 4, op := Op.assign (Operand.tmp 48), type := 24, pos := "wire.go:200", after := #[{ on := 9, ground := Ground.data }, { on := 9, ground := Ground.chain }, { on := 0, ground := Ground.phase }, { on := 1, ground := Ground.phase }, { on := 2, ground := Ground.phase }, { on := 3, ground := Ground.phase }, { on := 4, ground := Ground.phase }, { on := 5, ground := Ground.phase }, { on := 6, ground := Ground.phase }, { on := 7, ground := Ground.phase }, { on := 8, ground := Ground.phase }, { on := 9, ground := Ground.phase }], guard := none }

def putL (r : Rp) : List UInt8 := if mayR r = true then encR r else []
def putE (r : Rp) : Int := if mayR r = true then 0 else 201
theorem wp_normal {P : Program} {c : Code} {Q : Exit → Act → World → Prop} {a : Act} {w : World} (h : c.wp P (fun x a w => x = .normal ∧ Q .normal a w) a w) : c.wp P Q a w :=
  wp_mono h (fun e a w h => by obtain ⟨rfl, h⟩ := h; exact h)
theorem bval_nat (n : Nat) (h : n < 256) : bval (UInt8.ofNat n) = .int .u8 (n : Int) := by
  unfold bval
  rw [ofNat_byte n h]
theorem bval_numB {x : Int} (h : 0 ≤ x) (h2 : x < 256) : bval (numB x) = .int .u8 x := by
  have := byN_numB h h2
  unfold byN at this
  unfold bval
  rw [this]
theorem big32_e (x : Nat) (hx : x < 4294967296) (w : World) : Calls Try.prog 24 #[.int .u32 x] w fun e w' => ∃ g, e = .returned (.slice (some ⟨g, 0, none⟩) 4 4) ∧ BOwn w' w.heap.size (some ⟨g, 0, none⟩) 4 4 (bigL 4 x) ∧ w.grownBy w' none :=
  (big32_any x hx w).mono fun e w' ⟨h1, h2⟩ => ⟨_, h1, by rw [h2]; exact own_new w _ 4 (bigL_length 4 x) (by decide), by rw [h2]; exact World.grownBy_alloc _ _ _⟩
/-- a literal list of lists of bytes -/
theorem row_llies {w : World} {b : Nat} {L : List Sl} {bs : List (List UInt8)} (hr : Row w b 24 (L.map Sl.val).toArray) (hl : L.length = bs.length) (h : ∀ i (h : i < L.length) (h' : i < bs.length), BLies w (L[i]).a bs[i] ∧ (L[i]).n = (bs[i]).length) : LLies w (some ⟨b, 0, none⟩) L bs := by
  refine ⟨fun k hk => ⟨b, 0, rfl, ?_⟩, hl, h⟩
  rw [Nat.zero_add, Row.cell hr]
  simp only [List.getElem?_toArray]
  rw [List.getElem?_eq_getElem hk]

set_option maxRecDepth 100000 in
set_option maxHeartbeats 4000000 in
theorem putReply_none (K : Int) (k n cn m cb : Nat) (an ab : Option Addr) (ns : List Int) (bs : List UInt8) (w : World) (hK : K = (k : Int)) (hk : k < 256) (hns : Lies w an (IV ns)) (hbs : BLies w ab bs) (hn : ns.length = n) (hm : bs.length = m) (hnm : n ≤ maxLen) (hmm : m ≤ maxLen) (hmay : ¬ mayR ⟨k, ns, bs⟩ = true) :
    Calls Try.prog 9 #[.agg #[.int .u8 K, .slice an n cn, .slice ab m cb]] w fun e w' => ∃ a' n' c', e = .returned (.tuple #[.slice a' n' c', .int .i64 (putE ⟨k, ns, bs⟩)]) ∧ BOwn w' w.heap.size a' n' c' (putL ⟨k, ns, bs⟩) ∧ w.grownBy w' none := by
  have HNS := Lib.hid hns
  have HBS := Lib.hid hbs
  have HN := Lib.hid hn
  have HM := Lib.hid hm
  have hmt := fun W (hW : w.grownBy W none) => mayTell_n K k n cn m cb an ab ns bs W hK (hns.grown hW) hn hm hnm hmm
  have HMT := Lib.hid hmt
  clear hns hbs hn hm hmt
  have hL : putL ⟨k, ns, bs⟩ = [] := if_neg hmay
  have hE : putE ⟨k, ns, bs⟩ = 201 := if_neg hmay
  rw [hL, hE]
  rw [Bool.not_eq_true] at hmay
  rw [hmay] at HMT
  clear hL hE hmay hK
  go_enter Try.func9, Try.ntmps9
  go_wp2_with (first | (refine wpList_boxed rfl rfl #[.int .u8 K, .slice an n cn, .slice ab m cb] rfl ?_; intro wb hsb hgb hrb; have HB := Lib.hid hrb; have HG := Lib.hid hgb; clear hsb hgb hrb) | (refine wpList_load_row rfl 26 _ rfl w.heap.size rfl 26 #[.int .u8 K, .slice an n cn, .slice ab m cb] (0, 0) _ HB.out Try.underlying26 rfl (by kernel_rfl) ?_))
  refine (HMT.out wb HG.out).mono ?_
  rintro e w1 ⟨rfl, hg1⟩
  have HG1 := Lib.hid (grownBy_trans HG.out hg1)
  clear hg1
  go_wp2_with fail
  go_ret2
  exact ⟨_, _, _, rfl, Own.nil _ _ _ _ _, HG1.out⟩
set_option maxRecDepth 100000 in
set_option maxHeartbeats 4000000 in
theorem putReply_1 (K : Int) (k n cn m cb : Nat) (an ab : Option Addr) (ns : List Int) (bs : List UInt8) (w : World) (hK : K = (k : Int)) (hk : k < 256) (hns : Lies w an (IV ns)) (hbs : BLies w ab bs) (hn : ns.length = n) (hm : bs.length = m) (hnm : n ≤ maxLen) (hmm : m ≤ maxLen) (hmay : mayR ⟨k, ns, bs⟩ = true) (h1 : k = 1) :
    Calls Try.prog 9 #[.agg #[.int .u8 K, .slice an n cn, .slice ab m cb]] w fun e w' => ∃ a' n' c', e = .returned (.tuple #[.slice a' n' c', .int .i64 (putE ⟨k, ns, bs⟩)]) ∧ BOwn w' w.heap.size a' n' c' (putL ⟨k, ns, bs⟩) ∧ w.grownBy w' none := by
  have HNS := Lib.hid hns
  have HBS := Lib.hid hbs
  have HN := Lib.hid hn
  have HM := Lib.hid hm
  have hmt := fun W (hW : w.grownBy W none) => mayTell_n K k n cn m cb an ab ns bs W hK (hns.grown hW) hn hm hnm hmm
  have HMT := Lib.hid hmt
  clear hns hbs hn hm hmt
  have hL : putL ⟨k, ns, bs⟩ = encR ⟨k, ns, bs⟩ := if_pos hmay
  have hE : putE ⟨k, ns, bs⟩ = 0 := if_pos hmay
  rw [hL, hE]
  rw [hmay] at HMT
  subst h1
  have hK1 : K = 1 := hK
  subst hK1
  clear hK
  have hm0 : ¬ 0 < m := fun h => by rw [mayR_1b ns (by have := HM.out; omega)] at hmay; cases hmay
  obtain rfl : m = 0 := by omega
  have hb := List.eq_nil_of_length_eq_zero HM.out
  subst hb
  rw [mayR_1] at hmay
  have hlen := incr_len ns (-1) hmay (by omega)
  have hn255 : n ≤ 255 := by have := HN.out; omega
  have HX := Lib.hid (fun j (hj : j < n) => incr_bound ns (-1) hmay (ns.getD j 0) (by have := HN.out; rw [List.getD_eq_getElem?_getD, List.getElem?_eq_getElem (by omega)]; exact List.getElem_mem _))
  clear hlen hmay hm0 hnm hmm hL hE
  go_enter Try.func9, Try.ntmps9
  go_wp2_with (first | (refine wpList_boxed rfl rfl #[.int .u8 1, .slice an n cn, .slice ab 0 cb] rfl ?_; intro wb hsb hgb hrb; have HB := Lib.hid hrb; have HG := Lib.hid hgb; clear hsb hgb hrb) | (refine wpList_load_row rfl 26 _ rfl w.heap.size rfl 26 #[.int .u8 1, .slice an n cn, .slice ab 0 cb] (0, 0) _ HB.out Try.underlying26 rfl (by kernel_rfl) ?_))
  refine (HMT.out wb HG.out).mono ?_
  rintro e w1 ⟨rfl, hg1⟩
  have HG1 := Lib.hid (grownBy_trans HG.out hg1)
  have HB1 := Lib.hid (HB.out.grown hg1)
  have c0 := Row.cell HB1.out 0
  simp at c0
  clear hg1
  go_upto_region 4 with fail
  obtain ⟨W2, hW2⟩ : ∃ W2, W2 = w1.alloc (.cells #[.int .u8 1] 5) := ⟨_, rfl⟩
  rw [← hW2]
  have hg2 : w1.grownBy W2 none := hW2 ▸ World.grownBy_alloc _ _ none
  have hr2 : BRow W2 w1.heap.size 5 [1] := by rw [hW2]; exact heap_alloc_new w1 _
  have ho2 : Own W2 w.heap.size 5 1 (some ⟨w1.heap.size, 0, none⟩) 1 1 (([1] : List UInt8).map bval) := BRow.own hr2 (by have := HG1.out.size; omega) 1 rfl (by decide)
  have HO2 := Lib.hid ho2
  have HG2 := Lib.hid (grownBy_trans HG1.out hg2)
  have HB2 := Lib.hid (HB1.out.grown hg2)
  have hlt : w.heap.size < w1.heap.size := HB1.out.lt
  clear c0 hW2 hg2 hr2 ho2
  have c0 := Row.cell HB2.out 0
  have c1 := Row.cell HB2.out 1
  simp at c0 c1
  have hwv : IntKind.u8.wrap (n : Int) = (n : Int) := by rw [show IntKind.u8.wrap (n : Int) = (n : Int) % 256 from rfl]; omega
  go_upto_region 7 with (at_builtin; refine wpList_push elB rfl (.tmp 17) (.tmp 22) rfl rfl HO2.out (.int .u8 (n : Int)) rfl rfl (by decide) (by decide) HG2.out.size ?_; intro g3 cap3 w3 hown3 hgr3; have HO3 := Lib.hid hown3; have HG3 := Lib.hid (hgr3.grew.grown HO2.out HG2.out (Nat.le_refl _)); have HB3 := Lib.hid (Row.ch HB2.out hgr3.ch (fun h => by have := h.2; injection this with this; injection this with e1 e2; omega)); clear hown3 hgr3)
  clear c0 c1
  have c1 := Row.cell HB3.out 1
  simp at c1
  have HO3' : Hid (Own w3 w.heap.size 5 1 (some ⟨g3, 0, none⟩) 2 cap3 (([1, UInt8.ofNat n] : List UInt8).map bval)) := Lib.hid (by
    have h := HO3.out
    rw [← bval_nat n (by omega)] at h
    exact h)
  clear HO3 hwv
  go_wp2_with fail
  go_loopw [27, 4] (fun vi vo wr => ∃ (j : Nat) (a : Option Addr) (mm c : Nat), j ≤ n ∧ mm = 2 + j ∧ vi = .int .i64 (j : Int) ∧ vo = .slice a mm c ∧ Own wr w.heap.size 5 1 a mm c ((([1, UInt8.ofNat n] : List UInt8) ++ (ns.take j).map numB).map bval) ∧ w.grownBy wr none) (fun vi _ _ => n - (intOf vi).toNat)
  case atStart => exact ⟨0, _, _, _, by omega, rfl, rfl, rfl, HO3'.out, HG3.out⟩
  case round =>
    obtain ⟨j, a, mm, c, hj, hmm, rfl, rfl, ho, hg⟩ := hrel
    have HO := Lib.hid ho
    have HG4 := Lib.hid hg
    clear ho hg
    by_cases hlt2 : j < n
    · obtain ⟨b, off, rfl, hc⟩ := ints_cells (HNS.out.grown HG4.out) (by have := HN.out; omega)
      have hcj := hc j (by have := HN.out; omega)
      obtain ⟨hx1, hx2⟩ := HX.out j hlt2
      have htk : (ns.take (j + 1)).map numB = (ns.take j).map numB ++ [numB (ns.getD j 0)] := by
        have hjl : j < ns.length := by have := HN.out; omega
        rw [List.take_succ_eq_append_getElem hjl, List.map_append, List.getD_eq_getElem?_getD, List.getElem?_eq_getElem hjl]
        rfl
      obtain ⟨x, hx⟩ : ∃ x, x = ns.getD j 0 := ⟨_, rfl⟩
      rw [← hx] at hcj hx1 hx2 htk
      have HTK := Lib.hid htk
      have HBV := Lib.hid (bval_numB (x := x) (by omega) (by omega))
      have hwv : IntKind.u8.wrap x = x := by rw [show IntKind.u8.wrap x = x % 256 from rfl]; omega
      clear hc htk hx hx1 hx2
      subst hmm
      go_wp2_with (at_builtin; refine wpList_push elB rfl (.tmp 31) (.tmp 34) rfl rfl HO.out (.int .u8 x) rfl rfl (by unfold maxLen; omega) (by omega) HG4.out.size ?_; intro g5 cap5 w5 hown5 hgr5; have HO5 := Lib.hid hown5; have HG5 := Lib.hid (hgr5.grew.grown HO.out HG4.out (Nat.le_refl _)); clear hown5 hgr5)
      go_roundw
      case rel =>
        refine ⟨j + 1, _, _, _, by omega, by omega, by first | rfl | go_num, rfl, ?_, HG5.out⟩
        have h := HO5.out
        rw [HTK.out, ← List.append_assoc, List.map_append (l₁ := _ ++ _), List.map_singleton, HBV.out]
        exact h
      case measure => simp [intOf]; omega
    · obtain rfl : j = n := by omega
      subst hmm
      go_wp2_with fail
      go_ret2
      refine ⟨_, _, _, rfl, ?_, HG4.out⟩
      have h := HO.out
      rw [List.take_of_length_le (by have := HN.out; omega)] at h
      rw [show encR ⟨1, ns, []⟩ = [1, UInt8.ofNat j] ++ ns.map numB from by rw [← HN.out]; rfl]
      exact h
set_option maxRecDepth 100000 in
set_option maxHeartbeats 4000000 in
theorem putReply_k (K : Int) (k n cn m cb : Nat) (an ab : Option Addr) (ns : List Int) (bs : List UInt8) (w : World) (hK : K = (k : Int)) (hk : k < 256) (hns : Lies w an (IV ns)) (hbs : BLies w ab bs) (hn : ns.length = n) (hm : bs.length = m) (hnm : n ≤ maxLen) (hmm : m ≤ maxLen) (hmay : mayR ⟨k, ns, bs⟩ = true) (h1 : k ≠ 1) (h5 : k ≠ 5) :
    Calls Try.prog 9 #[.agg #[.int .u8 K, .slice an n cn, .slice ab m cb]] w fun e w' => ∃ a' n' c', e = .returned (.tuple #[.slice a' n' c', .int .i64 (putE ⟨k, ns, bs⟩)]) ∧ BOwn w' w.heap.size a' n' c' (putL ⟨k, ns, bs⟩) ∧ w.grownBy w' none := by
  have HNS := Lib.hid hns
  have HBS := Lib.hid hbs
  have HN := Lib.hid hn
  have HM := Lib.hid hm
  have hmt := fun W (hW : w.grownBy W none) => mayTell_n K k n cn m cb an ab ns bs W hK (hns.grown hW) hn hm hnm hmm
  have HMT := Lib.hid hmt
  clear hns hbs hn hm hmt
  have hL : putL ⟨k, ns, bs⟩ = encR ⟨k, ns, bs⟩ := if_pos hmay
  have hE : putE ⟨k, ns, bs⟩ = 0 := if_pos hmay
  rw [hL, hE]
  rw [hmay] at HMT
  have hb1 : (K == 1) = false := by rw [beq_eq_false_iff_ne]; omega
  have hn0 : ¬ 0 < n := fun h => by rw [mayR_n h1 (by have := HN.out; omega)] at hmay; cases hmay
  obtain rfl : n = 0 := by omega
  have hb := List.eq_nil_of_length_eq_zero HN.out
  subst hb
  have hc1 : (K == 5) = false := by rw [beq_eq_false_iff_ne]; omega
  have hm0 : ¬ 0 < m := fun h => by rw [mayR_b h1 h5 (by have := HM.out; omega)] at hmay; cases hmay
  obtain rfl : m = 0 := by omega
  have hb := List.eq_nil_of_length_eq_zero HM.out
  subst hb
  have hen : encR ⟨k, [], []⟩ = [UInt8.ofNat k] := by unfold encR; simp only [if_neg h1, if_neg h5]
  rw [hen]
  have HBV := Lib.hid (bval_nat k hk)
  have HKK := Lib.hid hK
  clear hK hn0 hm0 hL hE hen hmay
  go_enter Try.func9, Try.ntmps9
  go_wp2_with (first | (refine wpList_boxed rfl rfl #[.int .u8 K, .slice an 0 cn, .slice ab 0 cb] rfl ?_; intro wb hsb hgb hrb; have HB := Lib.hid hrb; have HG := Lib.hid hgb; clear hsb hgb hrb) | (refine wpList_load_row rfl 26 _ rfl w.heap.size rfl 26 #[.int .u8 K, .slice an 0 cn, .slice ab 0 cb] (0, 0) _ HB.out Try.underlying26 rfl (by kernel_rfl) ?_))
  refine (HMT.out wb HG.out).mono ?_
  rintro e w1 ⟨rfl, hg1⟩
  have HG1 := Lib.hid (grownBy_trans HG.out hg1)
  have HB1 := Lib.hid (HB.out.grown hg1)
  have c0 := Row.cell HB1.out 0
  simp at c0
  clear hg1
  go_upto_region 4 with fail
  obtain ⟨W2, hW2⟩ : ∃ W2, W2 = w1.alloc (.cells #[.int .u8 K] 5) := ⟨_, rfl⟩
  rw [← hW2]
  have hg2 : w1.grownBy W2 none := hW2 ▸ World.grownBy_alloc _ _ none
  have hr2 : BRow W2 w1.heap.size 5 [UInt8.ofNat k] := by
    rw [hW2]
    have e : rowB [UInt8.ofNat k] = #[.int .u8 K] := by unfold rowB; rw [List.map_singleton, HBV.out, HKK.out]
    show Row _ _ _ _
    rw [e]
    exact heap_alloc_new w1 _
  have ho2 : Own W2 w.heap.size 5 1 (some ⟨w1.heap.size, 0, none⟩) 1 1 (([UInt8.ofNat k] : List UInt8).map bval) := BRow.own hr2 (by have := HG1.out.size; omega) 1 rfl (by decide)
  have HO2 := Lib.hid ho2
  have HG2 := Lib.hid (grownBy_trans HG1.out hg2)
  have HB2 := Lib.hid (HB1.out.grown hg2)
  clear c0 hW2 hg2 hr2 ho2
  have c0 := Row.cell HB2.out 0
  simp at c0
  go_wp2_with fail
  go_ret2
  exact ⟨_, _, _, rfl, HO2.out, HG2.out⟩
set_option maxRecDepth 100000 in
set_option maxHeartbeats 4000000 in
theorem putReply_5 (K : Int) (k n cn m cb : Nat) (an ab : Option Addr) (ns : List Int) (bs : List UInt8) (w : World) (hK : K = (k : Int)) (hk : k < 256) (hns : Lies w an (IV ns)) (hbs : BLies w ab bs) (hn : ns.length = n) (hm : bs.length = m) (hnm : n ≤ maxLen) (hmm : m ≤ maxLen) (hmay : mayR ⟨k, ns, bs⟩ = true) (h5 : k = 5) :
    Calls Try.prog 9 #[.agg #[.int .u8 K, .slice an n cn, .slice ab m cb]] w fun e w' => ∃ a' n' c', e = .returned (.tuple #[.slice a' n' c', .int .i64 (putE ⟨k, ns, bs⟩)]) ∧ BOwn w' w.heap.size a' n' c' (putL ⟨k, ns, bs⟩) ∧ w.grownBy w' none := by
  have HNS := Lib.hid hns
  have HBS := Lib.hid hbs
  have HN := Lib.hid hn
  have HM := Lib.hid hm
  have hmt := fun W (hW : w.grownBy W none) => mayTell_n K k n cn m cb an ab ns bs W hK (hns.grown hW) hn hm hnm hmm
  have HMT := Lib.hid hmt
  clear hns hbs hn hm hmt
  have hL : putL ⟨k, ns, bs⟩ = encR ⟨k, ns, bs⟩ := if_pos hmay
  have hE : putE ⟨k, ns, bs⟩ = 0 := if_pos hmay
  rw [hL, hE]
  rw [hmay] at HMT
  have h1 : k ≠ 1 := by omega
  have hb1 : (K == 1) = false := by rw [beq_eq_false_iff_ne]; omega
  have hn0 : ¬ 0 < n := fun h => by rw [mayR_n h1 (by have := HN.out; omega)] at hmay; cases hmay
  obtain rfl : n = 0 := by omega
  have hb := List.eq_nil_of_length_eq_zero HN.out
  subst hb
  subst h5
  have hK5 : K = 5 := hK
  subst hK5
  rw [mayR_5, Bool.and_eq_true, decide_eq_true_eq, decide_eq_true_eq, HM.out] at hmay
  obtain ⟨hm1, hm2⟩ := hmay
  clear hK hb1 hn0 hL hE
  go_enter Try.func9, Try.ntmps9
  go_wp2_with (first | (refine wpList_boxed rfl rfl #[.int .u8 5, .slice an 0 cn, .slice ab m cb] rfl ?_; intro wb hsb hgb hrb; have HB := Lib.hid hrb; have HG := Lib.hid hgb; clear hsb hgb hrb) | (refine wpList_load_row rfl 26 _ rfl w.heap.size rfl 26 #[.int .u8 5, .slice an 0 cn, .slice ab m cb] (0, 0) _ HB.out Try.underlying26 rfl (by kernel_rfl) ?_))
  refine (HMT.out wb HG.out).mono ?_
  rintro e w1 ⟨rfl, hg1⟩
  have HG1 := Lib.hid (grownBy_trans HG.out hg1)
  have HB1 := Lib.hid (HB.out.grown hg1)
  have c0 := Row.cell HB1.out 0
  simp at c0
  clear hg1
  go_upto_region 4 with fail
  obtain ⟨W2, hW2⟩ : ∃ W2, W2 = w1.alloc (.cells #[.int .u8 5] 5) := ⟨_, rfl⟩
  rw [← hW2]
  have hg2 : w1.grownBy W2 none := hW2 ▸ World.grownBy_alloc _ _ none
  have hr2 : BRow W2 w1.heap.size 5 [5] := by rw [hW2]; exact heap_alloc_new w1 _
  have HG2 := Lib.hid (grownBy_trans HG1.out hg2)
  have HB2 := Lib.hid (HB1.out.grown hg2)
  obtain ⟨g1, hg1⟩ : ∃ g1, g1 = w1.heap.size := ⟨_, rfl⟩
  obtain ⟨bx, hbx⟩ : ∃ bx, bx = w.heap.size := ⟨_, rfl⟩
  rw [← hg1] at hr2 ⊢
  have HR2 := Lib.hid hr2
  rw [← hbx] at HB2 ⊢
  have HBX := Lib.hid hbx
  clear c0 hW2 hg2 hr2 hg1 hbx
  have c0 := Row.cell HB2.out 0
  simp at c0
  go_upto_region 13 with fail
  have hwm : IntKind.u32.wrap (m : Int) = (m : Int) := by rw [show IntKind.u32.wrap (m : Int) = (m : Int) % 4294967296 from rfl]; omega
  refine wp_normal ?_
  refine wp_regionX (fun u => W2.grownBy u none) 10 (by kernel_rfl) (grownBy_drewN W2 1 none) ?_
  refine wpX_take 0 (v := .slice (some ⟨g1, 0, none⟩) 1 1) (oi := { dst := some 39, op := Op.move (Operand.tmp 4), type := 24, pos := "wire.go:200", after := #[], guard := none }) (oL := oLWireRepP0) (clo_grown _) rfl rfl rfl (by kernel_rfl) (by kernel_rfl) (by kernel_rfl) (by kernel_rfl) (by kernel_rfl) (fun _ _ _ h => by cases h.1) (YG.val (by rfl) (fun _ _ => by go_simp)) ?_
  simp only [Act.put, List.setIfInBounds_toArray, List.set_cons_zero, List.set_cons_succ]
  refine wpX_take 1 (v := .pointer (some ⟨bx, 2, none⟩)) (oi := { dst := some 40, op := Op.fieldAddr 26 (Operand.tmp 1) 2, type := 0, pos := "wire.go:200", after := #[], guard := none }) (oL := oLWireRepP0) (clo_grown _) rfl rfl rfl (by kernel_rfl) (by kernel_rfl) (by kernel_rfl) (by kernel_rfl) (by kernel_rfl) (fun _ _ _ h => by cases h.1) (YG.val (by rfl) (fun _ _ => by go_simp)) ?_
  simp only [Act.put, List.setIfInBounds_toArray, List.set_cons_zero, List.set_cons_succ]
  refine wpX_take 2 (v := .slice ab m cb) (oi := { dst := some 41, op := Op.load 24 (Operand.tmp 40), type := 24, pos := "wire.go:200", after := #[{ on := 1, ground := Ground.data }], guard := none }) (oL := oLWireRepP0) (clo_grown _) rfl rfl rfl (by kernel_rfl) (by kernel_rfl) (by kernel_rfl) (by kernel_rfl) (by kernel_rfl) (fun _ _ _ h => by cases h.1) (YG.val (by rfl) (fun u hu => by have c := Row.cell (HB2.out.grown hu) 2; simp at c; go_simp)) ?_
  simp only [Act.put, List.setIfInBounds_toArray, List.set_cons_zero, List.set_cons_succ]
  refine wpX_take 3 (v := .int .i64 (m : Int)) (oi := { dst := some 42, op := Op.call { callee := Callee.builtin Builtin.len, args := #[Operand.tmp 41], argTypes := #[24] }, type := 3, pos := "wire.go:200", after := #[{ on := 2, ground := Ground.data }], guard := none }) (oL := oLWireRepP0) (clo_grown _) rfl rfl rfl (by kernel_rfl) (by kernel_rfl) (by kernel_rfl) (by kernel_rfl) (by kernel_rfl) (fun _ _ _ h => by cases h.1) (YG.val (by rfl) (fun _ _ => by go_simp)) ?_
  simp only [Act.put, List.setIfInBounds_toArray, List.set_cons_zero, List.set_cons_succ]
  refine wpX_take 4 (v := .int .u32 (m : Int)) (oi := { dst := some 43, op := Op.convert 3 39 (Operand.tmp 42), type := 39, pos := "wire.go:200", after := #[{ on := 3, ground := Ground.data }], guard := none }) (oL := oLWireRepP0) (clo_grown _) rfl rfl rfl (by kernel_rfl) (by kernel_rfl) (by kernel_rfl) (by kernel_rfl) (by kernel_rfl) (fun _ _ _ h => by cases h.1) (YG.val (by rfl) (fun _ _ => by go_simp)) ?_
  simp only [Act.put, List.setIfInBounds_toArray, List.set_cons_zero, List.set_cons_succ]
  refine wpX_take 6 (v := .pointer (some ⟨bx, 2, none⟩)) (oi := { dst := some 45, op := Op.fieldAddr 26 (Operand.tmp 1) 2, type := 0, pos := "wire.go:200", after := #[], guard := none }) (oL := oLWireRepP0) (clo_grown _) rfl rfl rfl (by kernel_rfl) (by kernel_rfl) (by kernel_rfl) (by kernel_rfl) (by kernel_rfl) (fun _ _ _ h => by cases h.1) (YG.val (by rfl) (fun _ _ => by go_simp)) ?_
  simp only [Act.put, List.setIfInBounds_toArray, List.set_cons_zero, List.set_cons_succ]
  refine wpX_take 7 (v := .slice ab m cb) (oi := { dst := some 46, op := Op.load 24 (Operand.tmp 45), type := 24, pos := "wire.go:200", after := #[{ on := 6, ground := Ground.data }], guard := none }) (oL := oLWireRepP0) (clo_grown _) rfl rfl rfl (by kernel_rfl) (by kernel_rfl) (by kernel_rfl) (by kernel_rfl) (by kernel_rfl) (fun _ _ _ h => by cases h.1) (YG.val (by rfl) (fun u hu => by have c := Row.cell (HB2.out.grown hu) 2; simp at c; go_simp)) ?_
  simp only [Act.put, List.setIfInBounds_toArray, List.set_cons_zero, List.set_cons_succ]
  refine wpX_step 5 (o := { dst := some 44, op := Op.call { callee := Callee.value (Operand.func 24), args := #[Operand.tmp 43], argTypes := #[39] }, type := 24, pos := "wire.go:200", after := #[{ on := 4, ground := Ground.data }], guard := none }) rfl rfl (by kernel_rfl) (by rfl) (fun u2 hS2 K hK => ?_)
  have HK := Lib.hid hK
  have HS := Lib.hid hS2
  clear hK hS2
  refine wp_call_op (f := 24) (args := #[.int .u32 (m : Int)]) (w1 := u2) (by go_simp) ((big32_e m (by omega) u2).mono ?_)
  rintro e w3 ⟨gb, rfl, ho, g⟩
  have Gw3 := Lib.hid (grownBy_trans HS.out g)
  have Zw3 := Lib.hid HS.out.size
  have OB := Lib.hid ho
  clear ho
  refine ⟨_, rfl, HK.out (fun u => w3.grownBy u none) _ _ (World.grownBy.refl _ _) (fun u h => grownBy_trans Gw3.out h) (clo_grown w3) ?_⟩
  clear HK HS g
  simp only [Act.put, List.setIfInBounds_toArray, List.set_cons_zero, List.set_cons_succ]
  refine wpX_step 8 (o := { dst := some 47, op := Op.buildSlice 52 3 #[(0, Operand.tmp 39), (1, Operand.tmp 44), (2, Operand.tmp 46)], type := 52, pos := "wire.go:200", after := #[{ on := 0, ground := Ground.data }, { on := 5, ground := Ground.data }, { on := 7, ground := Ground.data }], guard := none }) rfl rfl (by kernel_rfl) (by rfl) (fun u2 hS2 K hK => ?_)
  have HK := Lib.hid hK
  have HS := Lib.hid hS2
  clear hK hS2
  refine wp_val_op (v := .slice (some ⟨u2.heap.size, 0, none⟩) 3 3) (w1 := u2.alloc (.cells #[.slice (some ⟨g1, 0, none⟩) 1 1, .slice (some ⟨gb, 0, none⟩) 4 4, .slice ab m cb] 24)) (by go_simp) ?_
  obtain ⟨w4, hW⟩ : ∃ w4, w4 = u2.alloc (.cells #[.slice (some ⟨g1, 0, none⟩) 1 1, .slice (some ⟨gb, 0, none⟩) 4 4, .slice ab m cb] 24) := ⟨_, rfl⟩
  have g : u2.grownBy w4 none := hW ▸ World.grownBy_alloc _ _ _
  have hr : Row w4 u2.heap.size 24 #[.slice (some ⟨g1, 0, none⟩) 1 1, .slice (some ⟨gb, 0, none⟩) 4 4, .slice ab m cb] := hW ▸ heap_alloc_new u2 _
  rw [← hW]
  obtain ⟨bl, hb⟩ : ∃ bl, bl = u2.heap.size := ⟨_, rfl⟩
  rw [← hb] at hr ⊢
  have Gw4 := Lib.hid (grownBy_trans HS.out g)
  have Zw4 := Lib.hid HS.out.size
  replace OB := Lib.hid (BOwn.grown (BOwn.grown OB.out HS.out) g)
  have RL := Lib.hid hr
  clear hr hb hW
  refine HK.out (fun u => w4.grownBy u none) _ _ (World.grownBy.refl _ _) (fun u h => grownBy_trans Gw4.out h) (clo_grown w4) ?_
  clear HK HS g
  simp only [Act.put, List.setIfInBounds_toArray, List.set_cons_zero, List.set_cons_succ]
  have hj : ∀ u, w4.grownBy u none → Calls Try.prog 23 #[.slice (some ⟨bl, 0, none⟩) 3 3] u fun e w' => ∃ a' m' c', e = .returned (.slice a' m' c') ∧ BOwn w' u.heap.size a' m' c' (5 :: (bigL 4 m ++ bs)) ∧ u.grownBy w' none := fun u hu => by
    have hl : LLies u (some ⟨bl, 0, none⟩) [⟨some ⟨g1, 0, none⟩, 1, 1⟩, ⟨some ⟨gb, 0, none⟩, 4, 4⟩, ⟨ab, m, cb⟩] [[5], bigL 4 m, bs] := by
      refine row_llies (RL.out.grown hu) rfl (fun i h h' => ?_)
      match i, h, h' with
      | 0, _, _ => exact ⟨(BRow.grown HR2.out (grownBy_trans (grownBy_trans Gw3.out Gw4.out) hu)).lies, rfl⟩
      | 1, _, _ => exact ⟨(BOwn.grown OB.out hu).lies, (bigL_length 4 m).symm⟩
      | 2, _, _ => exact ⟨HBS.out.grown (grownBy_trans HG2.out (grownBy_trans (grownBy_trans Gw3.out Gw4.out) hu)), HM.out.symm⟩
    have hm := HM.out
    have h := joinB_n (some ⟨bl, 0, none⟩) 3 3 _ _ u hl rfl (by simp [bigL_length]; omega) (by omega)
    have e : ([[5], bigL 4 m, bs] : List (List UInt8)).flatten = 5 :: (bigL 4 m ++ bs) := by simp
    rw [e] at h
    exact h
  have HJ := Lib.hid hj
  clear hj
  refine wpX_step 9 (o := { dst := some 48, op := Op.call { callee := Callee.value (Operand.func 23), args := #[Operand.tmp 47], argTypes := #[52] }, type := 24, pos := "wire.go:200", after := #[{ on := 8, ground := Ground.data }, { on := 5, ground := Ground.chain }], guard := none }) rfl rfl (by kernel_rfl) (by rfl) (fun u2 hS2 K hK => ?_)
  have HK := Lib.hid hK
  have HS := Lib.hid hS2
  clear hK hS2
  refine wp_call_op (f := 23) (args := #[.slice (some ⟨bl, 0, none⟩) 3 3]) (w1 := u2) (by go_simp) ((HJ.out u2 HS.out).mono ?_)
  rintro e w5 ⟨aj, mj, cj, rfl, ho, g⟩
  have Gw5 := Lib.hid (grownBy_trans HS.out g)
  have Zw5 := Lib.hid HS.out.size
  have OJ := Lib.hid ho
  have Z5 := Lib.hid (show w.heap.size ≤ u2.heap.size from Nat.le_trans HG2.out.size (Nat.le_trans (grownBy_trans Gw3.out Gw4.out).size HS.out.size))
  clear ho
  refine ⟨_, rfl, HK.out (fun u => w5.grownBy u none) _ _ (World.grownBy.refl _ _) (fun u h => grownBy_trans Gw5.out h) (clo_grown w5) ?_⟩
  clear HK HS g
  simp only [Act.put, List.setIfInBounds_toArray, List.set_cons_zero, List.set_cons_succ]
  refine wpX_last (oL := { dst := some 4, op := Op.assign (Operand.tmp 48), type := 24, pos := "wire.go:200", after := #[{ on := 9, ground := Ground.data }, { on := 9, ground := Ground.chain }, { on := 0, ground := Ground.phase }, { on := 1, ground := Ground.phase }, { on := 2, ground := Ground.phase }, { on := 3, ground := Ground.phase }, { on := 4, ground := Ground.phase }, { on := 5, ground := Ground.phase }, { on := 6, ground := Ground.phase }, { on := 7, ground := Ground.phase }, { on := 8, ground := Ground.phase }, { on := 9, ground := Ground.phase }], guard := none }) rfl (by kernel_rfl) (by kernel_rfl) (by rfl) (fun u4 hS4 K4 hK4 => ?_)
  refine wp_val_op (v := .slice aj mj cj) (w1 := u4) (by rfl) (hK4 _ _ ?_)
  simp only [Act.put, List.setIfInBounds_toArray, List.set_cons_zero, List.set_cons_succ]
  refine ⟨by first | rfl | trivial, ?_⟩
  obtain ⟨w6, h6⟩ : ∃ w6, w6 = u4 := ⟨_, rfl⟩
  rw [← h6] at hS4 ⊢
  have HO6 := Lib.hid (BOwn.mono (BOwn.grown OJ.out hS4) Z5.out)
  have HG6 := Lib.hid (grownBy_trans HG2.out (grownBy_trans (grownBy_trans (grownBy_trans Gw3.out Gw4.out) Gw5.out) hS4))
  clear h6 hS4 hK4
  go_wp2_with fail
  go_ret2
  refine ⟨_, _, _, rfl, ?_, HG6.out⟩
  rw [show encR ⟨5, [], bs⟩ = 5 :: (bigL 4 m ++ bs) from by rw [← HM.out]; rfl]
  exact HO6.out
theorem putReply_n (K : Int) (k n cn m cb : Nat) (an ab : Option Addr) (ns : List Int) (bs : List UInt8) (w : World) (hK : K = (k : Int)) (hk : k < 256) (hns : Lies w an (IV ns)) (hbs : BLies w ab bs) (hn : ns.length = n) (hm : bs.length = m) (hnm : n ≤ maxLen) (hmm : m ≤ maxLen) :
    Calls Try.prog 9 #[.agg #[.int .u8 K, .slice an n cn, .slice ab m cb]] w fun e w' => ∃ a' n' c', e = .returned (.tuple #[.slice a' n' c', .int .i64 (putE ⟨k, ns, bs⟩)]) ∧ BOwn w' w.heap.size a' n' c' (putL ⟨k, ns, bs⟩) ∧ w.grownBy w' none := by
  by_cases hmay : mayR ⟨k, ns, bs⟩ = true
  · by_cases h1 : k = 1
    · exact putReply_1 K k n cn m cb an ab ns bs w hK hk hns hbs hn hm hnm hmm hmay h1
    · by_cases h5 : k = 5
      · exact putReply_5 K k n cn m cb an ab ns bs w hK hk hns hbs hn hm hnm hmm hmay h5
      · exact putReply_k K k n cn m cb an ab ns bs w hK hk hns hbs hn hm hnm hmm hmay h1 h5
  · exact putReply_none K k n cn m cb an ab ns bs w hK hk hns hbs hn hm hnm hmm hmay
end Go.Proofs.Ytkdmebcfedehiaa
/- wire.Reply: of all bytes. Printed by gens/wirereply.py. -/
namespace Go.Proofs.Ytkdmebcfedehiaa
open Go.RowKit

def rpOf : Except Nat Rp → Rp
  | .ok r => r
  | .error _ => noRp
def atOf {α : Type} : Except Nat α → Nat
  | .ok _ => 0
  | .error p => p
def erOf {α : Type} (c : Int) : Except Nat α → Int
  | .ok _ => 0
  | .error _ => c
/-- what Reply answers -/
def RepP (w : World) (d : Except Nat Rp) (e : Ending) (w' : World) : Prop :=
  ∃ an nn cn ab nb cb, e = .returned (.tuple #[.agg #[.int .u8 ((rpOf d).kind : Int), .slice an nn cn, .slice ab nb cb], .int .i64 (atOf d : Int), .int .i64 (erOf 201 d)]) ∧ IOwn w' w.heap.size an nn cn (rpOf d).nums ∧ BOwn w' w.heap.size ab nb cb (rpOf d).bytes ∧ w.grownBy w' none
theorem repP_err {w w' : World} (p : Nat) (q : Int) (hq : q = (p : Int)) (hg : w.grownBy w' none) : RepP w (.error p) (.returned (.tuple #[.agg #[.int .u8 0, .slice none 0 0, .slice none 0 0], .int .i64 q, .int .i64 201])) w' := by
  subst hq
  exact ⟨none, 0, 0, none, 0, 0, rfl, Own.nil _ _ _ _ _, Own.nil _ _ _ _ _, hg⟩
theorem info_rep : ∃ i z, Try.prog.info? 26 = some i ∧ i.zero = some z ∧ i.size = z.cells.size ∧ z = .agg #[.int .u8 0, .slice none 0 0, .slice none 0 0] := ⟨(Try.prog.info? 26).getD default, .agg #[.int .u8 0, .slice none 0 0, .slice none 0 0], by kernel_rfl, by kernel_rfl, by kernel_rfl, rfl⟩

theorem run_mid_op3 (w : World) (ev : Operand → Value) {o : Oper} (x lo hi : Operand) (ho : o.op = .slice 24 x (some lo) (some hi) none) (a : Option Addr) (N c f h r : Nat) (hx : ev x = .slice a N c) (hl : ev lo = .int .i64 (f : Int)) (hh : ev hi = .int .i64 (h : Int)) (h1 : f ≤ h) (h2 : h ≤ c) (hr : h - f = r) :
    (execOp ev o).run Try.prog w = .ok (.value (.slice (midA a f c) r (c - f))) w := by
  subst hr
  exact run_mid_op w ev x lo hi ho a N c f h hx hl hh h1 h2
theorem run_suf_op3 (w : World) (ev : Operand → Value) {o : Oper} (x l : Operand) (ho : o.op = .slice 24 x (some l) none none) (a : Option Addr) (N c m r : Nat) (hx : ev x = .slice a N c) (hh : ev l = .int .i64 (m : Int)) (hm : m ≤ N) (hr : N - m = r) :
    (execOp ev o).run Try.prog w = .ok (.value (.slice (midA a m c) r (c - m))) w := by
  subst hr
  have hu : Try.prog.underlying 24 = some (.slice (Try.prog.elem 24)) := by kernel_rfl
  have hz : (sizeOf (Try.prog.elem 24)).run Try.prog w = .ok 1 w := by
    obtain ⟨i, hi, hz, hs, hb⟩ := elB.info
    have he : Try.prog.elem 24 = 5 := by kernel_rfl
    rw [he]
    simp [sizeOf, typeInfo, hi, hs]
  unfold execOp
  simp only [ho, Option.map_some, Option.map_none]
  simp only [Sem.run_bind, run_sliceAt_slice (P := Try.prog) w _ _ _ _ _ hu, hx, hh]
  rw [run_slice_l (P := Try.prog) w _ _ _ _ hu _ _ (by omega) (by omega)]
  simp [hz, sliced, midA]
theorem suf_lies {w : World} {a : Option Addr} {l : List UInt8} (ha : BLies w a l) (f c : Nat) (h : f ≤ l.length) (hc : l.length ≤ c) : BLies w (midA a f c) (l.drop f) := by
  have h1 := mid_lies ha f (l.length - f) c (by omega) hc
  rwa [List.take_of_length_le (by rw [List.length_drop]; omega)] at h1

set_option maxRecDepth 100000 in
set_option maxHeartbeats 1000000 in
theorem fail_n (x : Int) (w : World) : Calls Try.prog 25 #[.int .i64 x] w fun e w' => e = .returned (.tuple #[.agg #[.int .u8 0, .slice none 0 0, .slice none 0 0], .int .i64 x, .int .i64 201]) ∧ w.grownBy w' none := by
  obtain ⟨ir, zr, hir, hirz, hirs, hz⟩ := info_rep
  subst hz
  go_enter Try.func25, Try.ntmps25
  go_wp2_with (first | (refine wpList_made rfl rfl hir hirz ?_; intro w1 hs1 hg1 hr1; have HG1 := Lib.hid hg1; have HR1 := Lib.hid (show Row w1 w.heap.size 26 #[.int .u8 0, .slice none 0 0, .slice none 0 0] from hr1); clear hs1 hg1 hr1) | (refine wpList_putrow rfl rfl w.heap.size rfl #[.int .u8 0, .slice none 0 0, .slice none 0 0] rfl HR1.out (by kernel_rfl) rfl (by simp [Value.oneCell']) ?_; intro W5 hg5 hr5; have HG5 := Lib.hid hg5; have HR5 := Lib.hid hr5; clear hg5 hr5))
  refine bodyPost_ret (results_ctt rfl _ _ w.heap.size 26 #[.int .u8 0, .slice none 0 0, .slice none 0 0] (0, 0) _ _ _ rfl rfl rfl HR5.out Try.underlying26 rfl (by kernel_rfl)) rfl ?_
  exact ⟨rfl, grownBy_old HG1.out HG5.out (Nat.le_refl _)⟩
set_option maxRecDepth 100000 in
set_option maxHeartbeats 4000000 in
theorem reply_empty (a : Option Addr) (n c : Nat) (l : List UInt8) (w : World) (hl : BLies w a l) (hn : l.length = n) (hnm : n ≤ 140737488355328) (h0 : n = 0) :
    Calls Try.prog 10 #[.slice a n c] w fun e w' => RepP w (decR l) e w' := by
  subst h0
  have hd : decR l = .error 0 := by unfold decR; rw [if_pos (.inl (List.eq_nil_of_length_eq_zero hn))]
  rw [hd]
  clear hl hn hnm hd
  obtain ⟨ir, zr, hir, hirz, hirs, hz⟩ := info_rep
  subst hz
  go_enter Try.func10, Try.ntmps10
  go_wp2_with (refine wpList_made rfl rfl hir hirz ?_; intro w1 hs1 hg1 hr1; have HS1 := Lib.hid hs1; have HG1 := Lib.hid hg1; have HR1 := Lib.hid (show Row w1 w.heap.size 26 #[.int .u8 0, .slice none 0 0, .slice none 0 0] from hr1); clear hs1 hg1 hr1)
  refine (fail_n 0 w1).mono ?_
  rintro e wf ⟨rfl, gf⟩
  have HTf := Lib.hid (HR1.out.grown gf)
  have HGf := Lib.hid (grownBy_trans HG1.out gf)
  clear gf
  go_wp2_with (refine wpList_putrow rfl rfl w.heap.size rfl #[.int .u8 0, .slice none 0 0, .slice none 0 0] rfl HTf.out (by kernel_rfl) rfl (by simp [Value.oneCell']) ?_; intro W5 hg5 hr5; have HG5 := Lib.hid hg5; have HR5 := Lib.hid hr5; clear hg5 hr5)
  refine bodyPost_ret (results_ctt rfl _ _ w.heap.size 26 #[.int .u8 0, .slice none 0 0, .slice none 0 0] (0, 0) _ _ _ rfl rfl rfl HR5.out Try.underlying26 rfl (by kernel_rfl)) rfl ?_
  exact repP_err (0) _ (rfl) (grownBy_old HGf.out HG5.out (Nat.le_refl _))
set_option maxRecDepth 100000 in
set_option maxHeartbeats 4000000 in
theorem reply_kind (a : Option Addr) (n c : Nat) (l : List UInt8) (w : World) (hl : BLies w a l) (hn : l.length = n) (hnm : n ≤ 140737488355328) (K : Int) (b off : Nat) (ha : a = some ⟨b, off, none⟩) (hK : K = ((l.getD 0 0).toNat : Int)) (h1 : 1 ≤ n) (hk : K < 1 ∨ 7 < K) :
    Calls Try.prog 10 #[.slice a n c] w fun e w' => RepP w (decR l) e w' := by
  have hd : decR l = .error 0 := by unfold decR; rw [if_pos (.inr (by omega))]
  rw [hd]
  have hce : ∀ W, w.grownBy W none → ∀ k, k < n → W.cell? ⟨b, off + k, none⟩ = some (.int .u8 ((l.getD k 0).toNat : Int)) := fun W hW k hk => by
    obtain ⟨b', off', e, h⟩ := bytes_cells (hl.grown hW) (by omega)
    rw [ha] at e
    injection e with e
    injection e with e1 e2
    subst e1; subst e2
    exact h k (by omega)
  have HC := Lib.hid hce
  have h00 : ((n : Int) == 0) = false := by rw [beq_eq_false_iff_ne]; omega
  have hK0 : ∀ W, w.grownBy W none → W.cell? ⟨b, off, none⟩ = some (.int .u8 K) := fun W hW => by rw [hK]; exact hce W hW 0 (by omega)
  have HK0 := Lib.hid hK0
  subst ha
  clear hce hK0
  clear hl hn hnm hd hK
  rcases (show K < 1 ∨ (¬ K < 1 ∧ 7 < K) by omega) with hk | ⟨hk, hk2⟩
  · have e1 : decide (K < 1) = true := decide_eq_true hk
    obtain ⟨ir, zr, hir, hirz, hirs, hz⟩ := info_rep
    subst hz
    go_enter Try.func10, Try.ntmps10
    go_upto_region 4 with (refine wpList_made rfl rfl hir hirz ?_; intro w1 hs1 hg1 hr1; have HS1 := Lib.hid hs1; have HG1 := Lib.hid hg1; have HR1 := Lib.hid (show Row w1 w.heap.size 26 #[.int .u8 0, .slice none 0 0, .slice none 0 0] from hr1); clear hs1 hg1 hr1)
    have k0 := HK0.out w1 HG1.out
    go_upto_region 5 with (refine wpList_fresh rfl rfl rfl rfl rfl hir hirz hirs #[.int .u8 K, .slice none 0 0, .slice none 0 0] rfl rfl rfl (by simp [Value.oneCell']) ?_; intro w2 hs2 hg2 hr2; have HS2 := Lib.hid hs2; have HG2 := Lib.hid (grownBy_trans HG1.out hg2); have HR2 := Lib.hid hr2; have HT2 := Lib.hid (HR1.out.grown hg2); have d0 := Row.cell hr2 0; simp at d0; clear k0 hs2 hg2 hr2)
    go_wp2_with fail
    refine (fail_n 0 w2).mono ?_
    rintro e wf ⟨rfl, gf⟩
    have HTf := Lib.hid (HT2.out.grown gf)
    have HGf := Lib.hid (grownBy_trans HG2.out gf)
    clear gf
    go_wp2_with (refine wpList_putrow rfl rfl w.heap.size rfl #[.int .u8 0, .slice none 0 0, .slice none 0 0] rfl HTf.out (by kernel_rfl) rfl (by simp [Value.oneCell']) ?_; intro W5 hg5 hr5; have HG5 := Lib.hid hg5; have HR5 := Lib.hid hr5; clear hg5 hr5)
    refine bodyPost_ret (results_ctt rfl _ _ w.heap.size 26 #[.int .u8 0, .slice none 0 0, .slice none 0 0] (0, 0) _ _ _ rfl rfl rfl HR5.out Try.underlying26 rfl (by kernel_rfl)) rfl ?_
    exact repP_err (0) _ (rfl) (grownBy_old HGf.out HG5.out (Nat.le_refl _))
  · have e1 : decide (K < 1) = false := decide_eq_false hk
    have e2 : decide (7 < K) = true := decide_eq_true hk2
    obtain ⟨ir, zr, hir, hirz, hirs, hz⟩ := info_rep
    subst hz
    go_enter Try.func10, Try.ntmps10
    go_upto_region 4 with (refine wpList_made rfl rfl hir hirz ?_; intro w1 hs1 hg1 hr1; have HS1 := Lib.hid hs1; have HG1 := Lib.hid hg1; have HR1 := Lib.hid (show Row w1 w.heap.size 26 #[.int .u8 0, .slice none 0 0, .slice none 0 0] from hr1); clear hs1 hg1 hr1)
    have k0 := HK0.out w1 HG1.out
    go_upto_region 5 with (refine wpList_fresh rfl rfl rfl rfl rfl hir hirz hirs #[.int .u8 K, .slice none 0 0, .slice none 0 0] rfl rfl rfl (by simp [Value.oneCell']) ?_; intro w2 hs2 hg2 hr2; have HS2 := Lib.hid hs2; have HG2 := Lib.hid (grownBy_trans HG1.out hg2); have HR2 := Lib.hid hr2; have HT2 := Lib.hid (HR1.out.grown hg2); have d0 := Row.cell hr2 0; simp at d0; clear k0 hs2 hg2 hr2)
    go_wp2_with fail
    refine (fail_n 0 w2).mono ?_
    rintro e wf ⟨rfl, gf⟩
    have HTf := Lib.hid (HT2.out.grown gf)
    have HGf := Lib.hid (grownBy_trans HG2.out gf)
    clear gf
    go_wp2_with (refine wpList_putrow rfl rfl w.heap.size rfl #[.int .u8 0, .slice none 0 0, .slice none 0 0] rfl HTf.out (by kernel_rfl) rfl (by simp [Value.oneCell']) ?_; intro W5 hg5 hr5; have HG5 := Lib.hid hg5; have HR5 := Lib.hid hr5; clear hg5 hr5)
    refine bodyPost_ret (results_ctt rfl _ _ w.heap.size 26 #[.int .u8 0, .slice none 0 0, .slice none 0 0] (0, 0) _ _ _ rfl rfl rfl HR5.out Try.underlying26 rfl (by kernel_rfl)) rfl ?_
    exact repP_err (0) _ (rfl) (grownBy_old HGf.out HG5.out (Nat.le_refl _))
set_option maxRecDepth 100000 in
set_option maxHeartbeats 4000000 in
theorem reply_plain (a : Option Addr) (n c : Nat) (l : List UInt8) (w : World) (hl : BLies w a l) (hn : l.length = n) (hnm : n ≤ 140737488355328) (K : Int) (b off : Nat) (ha : a = some ⟨b, off, none⟩) (hK : K = ((l.getD 0 0).toNat : Int)) (h1 : 1 ≤ n) (hk1 : 1 ≤ K) (hk7 : K ≤ 7) (hx1 : K ≠ 1) (hx5 : K ≠ 5) :
    Calls Try.prog 10 #[.slice a n c] w fun e w' => RepP w (decR l) e w' := by
  have hne : ¬ (l = [] ∨ (l.getD 0 0).toNat < 1 ∨ 7 < (l.getD 0 0).toNat) := fun h => by
    rcases h with h | h
    · rw [h] at hn; simp at hn; omega
    · omega
  have f1 : decide (K < 1) = false := decide_eq_false (by omega)
  have f7 : decide (7 < K) = false := decide_eq_false (by omega)
  have g1 : (K == 1) = false := by rw [beq_eq_false_iff_ne]; exact hx1
  have g5 : (K == 5) = false := by rw [beq_eq_false_iff_ne]; exact hx5
  have hce : ∀ W, w.grownBy W none → ∀ k, k < n → W.cell? ⟨b, off + k, none⟩ = some (.int .u8 ((l.getD k 0).toNat : Int)) := fun W hW k hk => by
    obtain ⟨b', off', e, h⟩ := bytes_cells (hl.grown hW) (by omega)
    rw [ha] at e
    injection e with e
    injection e with e1 e2
    subst e1; subst e2
    exact h k (by omega)
  have HC := Lib.hid hce
  have h00 : ((n : Int) == 0) = false := by rw [beq_eq_false_iff_ne]; omega
  have hK0 : ∀ W, w.grownBy W none → W.cell? ⟨b, off, none⟩ = some (.int .u8 K) := fun W hW => by rw [hK]; exact hce W hW 0 (by omega)
  have HK0 := Lib.hid hK0
  subst ha
  clear hce hK0
  by_cases hn1 : n = 1
  · subst hn1
    have hd : decR l = .ok ⟨(l.getD 0 0).toNat, [], []⟩ := by unfold decR; rw [if_neg hne, if_neg (by omega), if_neg (by omega), if_neg (by omega)]
    rw [hd]
    have HKK := Lib.hid hK
    clear hl hn hnm hd hK h1 hk1 hk7 hne hx1 hx5
    obtain ⟨ir, zr, hir, hirz, hirs, hz⟩ := info_rep
    subst hz
    go_enter Try.func10, Try.ntmps10
    go_upto_region 4 with (refine wpList_made rfl rfl hir hirz ?_; intro w1 hs1 hg1 hr1; have HS1 := Lib.hid hs1; have HG1 := Lib.hid hg1; have HR1 := Lib.hid (show Row w1 w.heap.size 26 #[.int .u8 0, .slice none 0 0, .slice none 0 0] from hr1); clear hs1 hg1 hr1)
    have k0 := HK0.out w1 HG1.out
    go_upto_region 5 with (refine wpList_fresh rfl rfl rfl rfl rfl hir hirz hirs #[.int .u8 K, .slice none 0 0, .slice none 0 0] rfl rfl rfl (by simp [Value.oneCell']) ?_; intro w2 hs2 hg2 hr2; have HS2 := Lib.hid hs2; have HG2 := Lib.hid (grownBy_trans HG1.out hg2); have HR2 := Lib.hid hr2; have HT2 := Lib.hid (HR1.out.grown hg2); have d0 := Row.cell hr2 0; simp at d0; clear k0 hs2 hg2 hr2)
    obtain ⟨bo, hbo⟩ : ∃ bo, bo = w1.heap.size := ⟨_, rfl⟩
    have HBO := Lib.hid (show w.heap.size < bo by rw [hbo]; exact HR1.out.lt)
    rw [← hbo] at HR2 d0 ⊢
    clear hbo
    go_upto_region 32 with fail
    go_wp2_with (first | (refine wpList_load_row rfl 26 _ rfl bo rfl 26 #[.int .u8 K, .slice none 0 0, .slice none 0 0] (0, 0) _ HR2.out Try.underlying26 rfl (by kernel_rfl) ?_) | (refine wpList_putrow rfl rfl w.heap.size rfl #[.int .u8 K, .slice none 0 0, .slice none 0 0] rfl HT2.out (by kernel_rfl) rfl (by simp [Value.oneCell']) ?_; intro W5 hg5 hr5; have HG5 := Lib.hid hg5; have HR5 := Lib.hid hr5; clear hg5 hr5))
    refine bodyPost_ret (results_ctt rfl _ _ w.heap.size 26 #[.int .u8 K, .slice none 0 0, .slice none 0 0] (0, 0) _ _ _ rfl rfl rfl HR5.out Try.underlying26 rfl (by kernel_rfl)) rfl ?_
    have hE : Ending.returned (.tuple #[.agg #[.int .u8 K, .slice none 0 0, .slice none 0 0], .int .i64 0, .int .i64 0]) = .returned (.tuple #[.agg #[.int .u8 ((l.getD 0 0).toNat : Int), .slice none 0 0, .slice none 0 0], .int .i64 0, .int .i64 0]) := by rw [HKK.out]
    exact ⟨none, 0, 0, none, 0, 0, hE, Own.nil _ _ _ _ _, Own.nil _ _ _ _ _, grownBy_old HG2.out HG5.out (Nat.le_refl _)⟩
  · have hd : decR l = .error 1 := by unfold decR; rw [if_neg hne, if_neg (by omega), if_neg (by omega), if_pos (by omega)]
    rw [hd]
    have hne1 : ((n : Int) != 1) = true := by rw [bne_iff_ne]; omega
    have hmin : (if (1 : Int) < (n : Int) then (1 : Int) else (n : Int)) = 1 := by split <;> omega
    have hmin2 : min (n : Int) 1 = 1 := by omega
    clear hl hn hd hK hk1 hk7 hne hx1 hx5 hn1
    obtain ⟨ir, zr, hir, hirz, hirs, hz⟩ := info_rep
    subst hz
    go_enter Try.func10, Try.ntmps10
    go_upto_region 4 with (refine wpList_made rfl rfl hir hirz ?_; intro w1 hs1 hg1 hr1; have HS1 := Lib.hid hs1; have HG1 := Lib.hid hg1; have HR1 := Lib.hid (show Row w1 w.heap.size 26 #[.int .u8 0, .slice none 0 0, .slice none 0 0] from hr1); clear hs1 hg1 hr1)
    have k0 := HK0.out w1 HG1.out
    go_upto_region 5 with (refine wpList_fresh rfl rfl rfl rfl rfl hir hirz hirs #[.int .u8 K, .slice none 0 0, .slice none 0 0] rfl rfl rfl (by simp [Value.oneCell']) ?_; intro w2 hs2 hg2 hr2; have HS2 := Lib.hid hs2; have HG2 := Lib.hid (grownBy_trans HG1.out hg2); have HR2 := Lib.hid hr2; have HT2 := Lib.hid (HR1.out.grown hg2); have d0 := Row.cell hr2 0; simp at d0; clear k0 hs2 hg2 hr2)
    go_wp2_with fail
    refine (fail_n 1 w2).mono ?_
    rintro e wf ⟨rfl, gf⟩
    have HTf := Lib.hid (HT2.out.grown gf)
    have HGf := Lib.hid (grownBy_trans HG2.out gf)
    clear gf
    go_wp2_with (refine wpList_putrow rfl rfl w.heap.size rfl #[.int .u8 0, .slice none 0 0, .slice none 0 0] rfl HTf.out (by kernel_rfl) rfl (by simp [Value.oneCell']) ?_; intro W5 hg5 hr5; have HG5 := Lib.hid hg5; have HR5 := Lib.hid hr5; clear hg5 hr5)
    refine bodyPost_ret (results_ctt rfl _ _ w.heap.size 26 #[.int .u8 0, .slice none 0 0, .slice none 0 0] (0, 0) _ _ _ rfl rfl rfl HR5.out Try.underlying26 rfl (by kernel_rfl)) rfl ?_
    exact repP_err (1) _ (rfl) (grownBy_old HGf.out HG5.out (Nat.le_refl _))
set_option maxRecDepth 100000 in
set_option maxHeartbeats 4000000 in
theorem reply_5a (a : Option Addr) (n c : Nat) (l : List UInt8) (w : World) (hl : BLies w a l) (hn : l.length = n) (hnm : n ≤ 140737488355328) (hc : n ≤ c) (b off : Nat) (ha : a = some ⟨b, off, none⟩) (hK : (5 : Int) = ((l.getD 0 0).toNat : Int)) (h1 : 1 ≤ n) (hs : n < 5) :
    Calls Try.prog 10 #[.slice a n c] w fun e w' => RepP w (decR l) e w' := by
  have hne : ¬ (l = [] ∨ (l.getD 0 0).toNat < 1 ∨ 7 < (l.getD 0 0).toNat) := fun h => by
    rcases h with h | h
    · rw [h] at hn; simp at hn; omega
    · omega
  have hce : ∀ W, w.grownBy W none → ∀ k, k < n → W.cell? ⟨b, off + k, none⟩ = some (.int .u8 ((l.getD k 0).toNat : Int)) := fun W hW k hk => by
    obtain ⟨b', off', e, h⟩ := bytes_cells (hl.grown hW) (by omega)
    rw [ha] at e
    injection e with e
    injection e with e1 e2
    subst e1; subst e2
    exact h k (by omega)
  have HC := Lib.hid hce
  have h00 : ((n : Int) == 0) = false := by rw [beq_eq_false_iff_ne]; omega
  have hK0 : ∀ W, w.grownBy W none → W.cell? ⟨b, off, none⟩ = some (.int .u8 5) := fun W hW => by rw [hK]; exact hce W hW 0 (by omega)
  have HK0 := Lib.hid hK0
  subst ha
  clear hce hK0
  have hd : decR l = .error n := by unfold decR; rw [if_neg hne, if_neg (by omega), if_pos (by omega), if_pos (by omega), hn]
  rw [hd]
  have e5 : decide ((n : Int) < 5) = true := decide_eq_true (by omega)
  have e52 : decide (n < 5) = true := decide_eq_true hs
  clear hl hn hd hK hne hc hs
  obtain ⟨ir, zr, hir, hirz, hirs, hz⟩ := info_rep
  subst hz
  go_enter Try.func10, Try.ntmps10
  go_upto_region 4 with (refine wpList_made rfl rfl hir hirz ?_; intro w1 hs1 hg1 hr1; have HS1 := Lib.hid hs1; have HG1 := Lib.hid hg1; have HR1 := Lib.hid (show Row w1 w.heap.size 26 #[.int .u8 0, .slice none 0 0, .slice none 0 0] from hr1); clear hs1 hg1 hr1)
  have k0 := HK0.out w1 HG1.out
  go_upto_region 5 with (refine wpList_fresh rfl rfl rfl rfl rfl hir hirz hirs #[.int .u8 5, .slice none 0 0, .slice none 0 0] rfl rfl rfl (by simp [Value.oneCell']) ?_; intro w2 hs2 hg2 hr2; have HS2 := Lib.hid hs2; have HG2 := Lib.hid (grownBy_trans HG1.out hg2); have HR2 := Lib.hid hr2; have HT2 := Lib.hid (HR1.out.grown hg2); have d0 := Row.cell hr2 0; simp at d0; clear k0 hs2 hg2 hr2)
  go_wp2_with fail
  refine (fail_n (n : Int) w2).mono ?_
  rintro e wf ⟨rfl, gf⟩
  have HTf := Lib.hid (HT2.out.grown gf)
  have HGf := Lib.hid (grownBy_trans HG2.out gf)
  clear gf
  go_wp2_with (refine wpList_putrow rfl rfl w.heap.size rfl #[.int .u8 0, .slice none 0 0, .slice none 0 0] rfl HTf.out (by kernel_rfl) rfl (by simp [Value.oneCell']) ?_; intro W5 hg5 hr5; have HG5 := Lib.hid hg5; have HR5 := Lib.hid hr5; clear hg5 hr5)
  refine bodyPost_ret (results_ctt rfl _ _ w.heap.size 26 #[.int .u8 0, .slice none 0 0, .slice none 0 0] (0, 0) _ _ _ rfl rfl rfl HR5.out Try.underlying26 rfl (by kernel_rfl)) rfl ?_
  exact repP_err (n) _ (rfl) (grownBy_old HGf.out HG5.out (Nat.le_refl _))
set_option maxRecDepth 100000 in
set_option maxHeartbeats 4000000 in
theorem reply_5b (a : Option Addr) (n c : Nat) (l : List UInt8) (w : World) (hl : BLies w a l) (hn : l.length = n) (hnm : n ≤ 140737488355328) (hc : n ≤ c) (b off : Nat) (ha : a = some ⟨b, off, none⟩) (hK : (5 : Int) = ((l.getD 0 0).toNat : Int)) (h1 : 1 ≤ n) (hs : 5 ≤ n) (hX0 : getN l 1 4 < 1) :
    Calls Try.prog 10 #[.slice a n c] w fun e w' => RepP w (decR l) e w' := by
  have hne : ¬ (l = [] ∨ (l.getD 0 0).toNat < 1 ∨ 7 < (l.getD 0 0).toNat) := fun h => by
    rcases h with h | h
    · rw [h] at hn; simp at hn; omega
    · omega
  have hce : ∀ W, w.grownBy W none → ∀ k, k < n → W.cell? ⟨b, off + k, none⟩ = some (.int .u8 ((l.getD k 0).toNat : Int)) := fun W hW k hk => by
    obtain ⟨b', off', e, h⟩ := bytes_cells (hl.grown hW) (by omega)
    rw [ha] at e
    injection e with e
    injection e with e1 e2
    subst e1; subst e2
    exact h k (by omega)
  have HC := Lib.hid hce
  have h00 : ((n : Int) == 0) = false := by rw [beq_eq_false_iff_ne]; omega
  have hK0 : ∀ W, w.grownBy W none → W.cell? ⟨b, off, none⟩ = some (.int .u8 5) := fun W hW => by rw [hK]; exact hce W hW 0 (by omega)
  have HK0 := Lib.hid hK0
  subst ha
  clear hce hK0
  have hd : decR l = .error 1 := by unfold decR; rw [if_neg hne, if_neg (by omega), if_pos (by omega), if_neg (by omega), if_pos (by omega)]
  rw [hd]
  obtain ⟨X, hX⟩ : ∃ X, X = getN l 1 4 := ⟨_, rfl⟩
  have hXlt : X < 4294967296 := by rw [hX]; exact getN_lt l 1
  have hsm : ∀ W, w.grownBy W none → Calls Try.prog 27 #[.slice (midA (some ⟨b, off, none⟩) 1 c) 4 (c - 1)] W fun e w' => e = .returned (.tuple #[.int .u32 (X : Int), .int .i64 0]) ∧ W = w' := fun W hW => by
    have h := small32_any (midA (some ⟨b, off, none⟩) 1 c) (c - 1) 4 ((l.drop 1).take 4) W (mid_lies (hl.grown hW) 1 4 c (by omega) (by omega)) (mid_len (by omega)) (by decide)
    rw [if_neg (by omega), if_neg (by omega)] at h
    rw [hX]
    exact h
  have HSM := Lib.hid hsm
  clear hsm
  have e5 : decide ((n : Int) < 5) = false := decide_eq_false (by omega)
  have e52 : decide (n < 5) = false := decide_eq_false (by omega)
  have hw : IntKind.i64.wrap (X : Int) = (X : Int) := IntWalk.i64_in _ (by omega)
  have x1 : decide ((X : Int) < 1) = true := decide_eq_true (by omega)
  have x2 : decide (X < 1) = true := decide_eq_true (by omega)
  clear hl hn hd hK hne
  obtain ⟨ir, zr, hir, hirz, hirs, hz⟩ := info_rep
  subst hz
  go_enter Try.func10, Try.ntmps10
  go_upto_region 4 with (refine wpList_made rfl rfl hir hirz ?_; intro w1 hs1 hg1 hr1; have HS1 := Lib.hid hs1; have HG1 := Lib.hid hg1; have HR1 := Lib.hid (show Row w1 w.heap.size 26 #[.int .u8 0, .slice none 0 0, .slice none 0 0] from hr1); clear hs1 hg1 hr1)
  have k0 := HK0.out w1 HG1.out
  go_upto_region 5 with (refine wpList_fresh rfl rfl rfl rfl rfl hir hirz hirs #[.int .u8 5, .slice none 0 0, .slice none 0 0] rfl rfl rfl (by simp [Value.oneCell']) ?_; intro w2 hs2 hg2 hr2; have HS2 := Lib.hid hs2; have HG2 := Lib.hid (grownBy_trans HG1.out hg2); have HR2 := Lib.hid hr2; have HT2 := Lib.hid (HR1.out.grown hg2); have d0 := Row.cell hr2 0; simp at d0; clear k0 hs2 hg2 hr2)
  go_upto_region 24 with fail
  go_upto_region 26 with (first
    | (refine wpList_valp rfl (run_mid_op3 _ _ (.tmp 129) _ _ rfl (some ⟨b, off, none⟩) n c 1 5 4 rfl rfl rfl (by omega) (by omega) rfl) ?_)
    | (go_at_call 27; refine (HSM.out w2 HG2.out).mono ?_; rintro e w' ⟨rfl, rfl⟩))
  go_wp2_with fail
  refine (fail_n 1 w2).mono ?_
  rintro e wf ⟨rfl, gf⟩
  have HTf := Lib.hid (HT2.out.grown gf)
  have HGf := Lib.hid (grownBy_trans HG2.out gf)
  clear gf
  go_wp2_with (refine wpList_putrow rfl rfl w.heap.size rfl #[.int .u8 0, .slice none 0 0, .slice none 0 0] rfl HTf.out (by kernel_rfl) rfl (by simp [Value.oneCell']) ?_; intro W5 hg5 hr5; have HG5 := Lib.hid hg5; have HR5 := Lib.hid hr5; clear hg5 hr5)
  refine bodyPost_ret (results_ctt rfl _ _ w.heap.size 26 #[.int .u8 0, .slice none 0 0, .slice none 0 0] (0, 0) _ _ _ rfl rfl rfl HR5.out Try.underlying26 rfl (by kernel_rfl)) rfl ?_
  exact repP_err (1) _ (rfl) (grownBy_old HGf.out HG5.out (Nat.le_refl _))
set_option maxRecDepth 100000 in
set_option maxHeartbeats 4000000 in
theorem reply_5c (a : Option Addr) (n c : Nat) (l : List UInt8) (w : World) (hl : BLies w a l) (hn : l.length = n) (hnm : n ≤ 140737488355328) (hc : n ≤ c) (b off : Nat) (ha : a = some ⟨b, off, none⟩) (hK : (5 : Int) = ((l.getD 0 0).toNat : Int)) (h1 : 1 ≤ n) (hs : 5 ≤ n) (hX0 : 131072 < getN l 1 4) :
    Calls Try.prog 10 #[.slice a n c] w fun e w' => RepP w (decR l) e w' := by
  have hne : ¬ (l = [] ∨ (l.getD 0 0).toNat < 1 ∨ 7 < (l.getD 0 0).toNat) := fun h => by
    rcases h with h | h
    · rw [h] at hn; simp at hn; omega
    · omega
  have hce : ∀ W, w.grownBy W none → ∀ k, k < n → W.cell? ⟨b, off + k, none⟩ = some (.int .u8 ((l.getD k 0).toNat : Int)) := fun W hW k hk => by
    obtain ⟨b', off', e, h⟩ := bytes_cells (hl.grown hW) (by omega)
    rw [ha] at e
    injection e with e
    injection e with e1 e2
    subst e1; subst e2
    exact h k (by omega)
  have HC := Lib.hid hce
  have h00 : ((n : Int) == 0) = false := by rw [beq_eq_false_iff_ne]; omega
  have hK0 : ∀ W, w.grownBy W none → W.cell? ⟨b, off, none⟩ = some (.int .u8 5) := fun W hW => by rw [hK]; exact hce W hW 0 (by omega)
  have HK0 := Lib.hid hK0
  subst ha
  clear hce hK0
  have hd : decR l = .error 1 := by unfold decR; rw [if_neg hne, if_neg (by omega), if_pos (by omega), if_neg (by omega), if_pos (by omega)]
  rw [hd]
  obtain ⟨X, hX⟩ : ∃ X, X = getN l 1 4 := ⟨_, rfl⟩
  have hXlt : X < 4294967296 := by rw [hX]; exact getN_lt l 1
  have hsm : ∀ W, w.grownBy W none → Calls Try.prog 27 #[.slice (midA (some ⟨b, off, none⟩) 1 c) 4 (c - 1)] W fun e w' => e = .returned (.tuple #[.int .u32 (X : Int), .int .i64 0]) ∧ W = w' := fun W hW => by
    have h := small32_any (midA (some ⟨b, off, none⟩) 1 c) (c - 1) 4 ((l.drop 1).take 4) W (mid_lies (hl.grown hW) 1 4 c (by omega) (by omega)) (mid_len (by omega)) (by decide)
    rw [if_neg (by omega), if_neg (by omega)] at h
    rw [hX]
    exact h
  have HSM := Lib.hid hsm
  clear hsm
  have e5 : decide ((n : Int) < 5) = false := decide_eq_false (by omega)
  have e52 : decide (n < 5) = false := decide_eq_false (by omega)
  have hw : IntKind.i64.wrap (X : Int) = (X : Int) := IntWalk.i64_in _ (by omega)
  have x1 : decide ((X : Int) < 1) = false := decide_eq_false (by omega)
  have x2 : decide (X < 1) = false := decide_eq_false (by omega)
  have x3 : decide ((131072 : Int) < (X : Int)) = true := decide_eq_true (by omega)
  have x4 : decide (131072 < X) = true := decide_eq_true (by omega)
  clear hl hn hd hK hne
  obtain ⟨ir, zr, hir, hirz, hirs, hz⟩ := info_rep
  subst hz
  go_enter Try.func10, Try.ntmps10
  go_upto_region 4 with (refine wpList_made rfl rfl hir hirz ?_; intro w1 hs1 hg1 hr1; have HS1 := Lib.hid hs1; have HG1 := Lib.hid hg1; have HR1 := Lib.hid (show Row w1 w.heap.size 26 #[.int .u8 0, .slice none 0 0, .slice none 0 0] from hr1); clear hs1 hg1 hr1)
  have k0 := HK0.out w1 HG1.out
  go_upto_region 5 with (refine wpList_fresh rfl rfl rfl rfl rfl hir hirz hirs #[.int .u8 5, .slice none 0 0, .slice none 0 0] rfl rfl rfl (by simp [Value.oneCell']) ?_; intro w2 hs2 hg2 hr2; have HS2 := Lib.hid hs2; have HG2 := Lib.hid (grownBy_trans HG1.out hg2); have HR2 := Lib.hid hr2; have HT2 := Lib.hid (HR1.out.grown hg2); have d0 := Row.cell hr2 0; simp at d0; clear k0 hs2 hg2 hr2)
  go_upto_region 24 with fail
  go_upto_region 26 with (first
    | (refine wpList_valp rfl (run_mid_op3 _ _ (.tmp 129) _ _ rfl (some ⟨b, off, none⟩) n c 1 5 4 rfl rfl rfl (by omega) (by omega) rfl) ?_)
    | (go_at_call 27; refine (HSM.out w2 HG2.out).mono ?_; rintro e w' ⟨rfl, rfl⟩))
  go_wp2_with fail
  refine (fail_n 1 w2).mono ?_
  rintro e wf ⟨rfl, gf⟩
  have HTf := Lib.hid (HT2.out.grown gf)
  have HGf := Lib.hid (grownBy_trans HG2.out gf)
  clear gf
  go_wp2_with (refine wpList_putrow rfl rfl w.heap.size rfl #[.int .u8 0, .slice none 0 0, .slice none 0 0] rfl HTf.out (by kernel_rfl) rfl (by simp [Value.oneCell']) ?_; intro W5 hg5 hr5; have HG5 := Lib.hid hg5; have HR5 := Lib.hid hr5; clear hg5 hr5)
  refine bodyPost_ret (results_ctt rfl _ _ w.heap.size 26 #[.int .u8 0, .slice none 0 0, .slice none 0 0] (0, 0) _ _ _ rfl rfl rfl HR5.out Try.underlying26 rfl (by kernel_rfl)) rfl ?_
  exact repP_err (1) _ (rfl) (grownBy_old HGf.out HG5.out (Nat.le_refl _))
set_option maxRecDepth 100000 in
set_option maxHeartbeats 4000000 in
theorem reply_5d1 (a : Option Addr) (n c : Nat) (l : List UInt8) (w : World) (hl : BLies w a l) (hn : l.length = n) (hnm : n ≤ 140737488355328) (hc : n ≤ c) (b off : Nat) (ha : a = some ⟨b, off, none⟩) (hK : (5 : Int) = ((l.getD 0 0).toNat : Int)) (h1 : 1 ≤ n) (hs : 5 ≤ n) (hX0 : 1 ≤ getN l 1 4 ∧ getN l 1 4 ≤ 131072) (hnX : n < 5 + getN l 1 4) :
    Calls Try.prog 10 #[.slice a n c] w fun e w' => RepP w (decR l) e w' := by
  have hne : ¬ (l = [] ∨ (l.getD 0 0).toNat < 1 ∨ 7 < (l.getD 0 0).toNat) := fun h => by
    rcases h with h | h
    · rw [h] at hn; simp at hn; omega
    · omega
  have hce : ∀ W, w.grownBy W none → ∀ k, k < n → W.cell? ⟨b, off + k, none⟩ = some (.int .u8 ((l.getD k 0).toNat : Int)) := fun W hW k hk => by
    obtain ⟨b', off', e, h⟩ := bytes_cells (hl.grown hW) (by omega)
    rw [ha] at e
    injection e with e
    injection e with e1 e2
    subst e1; subst e2
    exact h k (by omega)
  have HC := Lib.hid hce
  have h00 : ((n : Int) == 0) = false := by rw [beq_eq_false_iff_ne]; omega
  have hK0 : ∀ W, w.grownBy W none → W.cell? ⟨b, off, none⟩ = some (.int .u8 5) := fun W hW => by rw [hK]; exact hce W hW 0 (by omega)
  have HK0 := Lib.hid hK0
  subst ha
  clear hce hK0
  have hd : decR l = .error (min n (5 + getN l 1 4)) := by unfold decR; rw [if_neg hne, if_neg (by omega), if_pos (by omega), if_neg (by omega), if_neg (by omega), if_pos (by omega), hn]
  rw [hd]
  obtain ⟨X, hX⟩ : ∃ X, X = getN l 1 4 := ⟨_, rfl⟩
  have hXlt : X < 4294967296 := by rw [hX]; exact getN_lt l 1
  have hsm : ∀ W, w.grownBy W none → Calls Try.prog 27 #[.slice (midA (some ⟨b, off, none⟩) 1 c) 4 (c - 1)] W fun e w' => e = .returned (.tuple #[.int .u32 (X : Int), .int .i64 0]) ∧ W = w' := fun W hW => by
    have h := small32_any (midA (some ⟨b, off, none⟩) 1 c) (c - 1) 4 ((l.drop 1).take 4) W (mid_lies (hl.grown hW) 1 4 c (by omega) (by omega)) (mid_len (by omega)) (by decide)
    rw [if_neg (by omega), if_neg (by omega)] at h
    rw [hX]
    exact h
  have HSM := Lib.hid hsm
  clear hsm
  have e5 : decide ((n : Int) < 5) = false := decide_eq_false (by omega)
  have e52 : decide (n < 5) = false := decide_eq_false (by omega)
  have hw : IntKind.i64.wrap (X : Int) = (X : Int) := IntWalk.i64_in _ (by omega)
  have x1 : decide ((X : Int) < 1) = false := decide_eq_false (by omega)
  have x2 : decide (X < 1) = false := decide_eq_false (by omega)
  have x3 : decide ((131072 : Int) < (X : Int)) = false := decide_eq_false (by omega)
  have x4 : decide (131072 < X) = false := decide_eq_false (by omega)
  rw [← hX] at hnX hX0 ⊢
  have hXb : X ≤ 131072 := hX0.2
  rw [show min n (5 + X) = n from by omega]
  have hmin : decide (5 + (X : Int) < (n : Int)) = false := decide_eq_false (by omega)
  have hmin2 : decide (5 + X < n) = false := decide_eq_false (by omega)
  have hnd : ((n : Int) != 5 + (X : Int)) = true := by rw [bne_iff_ne]; omega
  clear hl hn hd hK hne hX hX0 hXlt
  obtain ⟨ir, zr, hir, hirz, hirs, hz⟩ := info_rep
  subst hz
  go_enter Try.func10, Try.ntmps10
  go_upto_region 4 with (refine wpList_made rfl rfl hir hirz ?_; intro w1 hs1 hg1 hr1; have HS1 := Lib.hid hs1; have HG1 := Lib.hid hg1; have HR1 := Lib.hid (show Row w1 w.heap.size 26 #[.int .u8 0, .slice none 0 0, .slice none 0 0] from hr1); clear hs1 hg1 hr1)
  have k0 := HK0.out w1 HG1.out
  go_upto_region 5 with (refine wpList_fresh rfl rfl rfl rfl rfl hir hirz hirs #[.int .u8 5, .slice none 0 0, .slice none 0 0] rfl rfl rfl (by simp [Value.oneCell']) ?_; intro w2 hs2 hg2 hr2; have HS2 := Lib.hid hs2; have HG2 := Lib.hid (grownBy_trans HG1.out hg2); have HR2 := Lib.hid hr2; have HT2 := Lib.hid (HR1.out.grown hg2); have d0 := Row.cell hr2 0; simp at d0; clear k0 hs2 hg2 hr2)
  go_upto_region 24 with fail
  go_upto_region 26 with (first
    | (refine wpList_valp rfl (run_mid_op3 _ _ (.tmp 129) _ _ rfl (some ⟨b, off, none⟩) n c 1 5 4 rfl rfl rfl (by omega) (by omega) rfl) ?_)
    | (go_at_call 27; refine (HSM.out w2 HG2.out).mono ?_; rintro e w' ⟨rfl, rfl⟩))
  go_wp2_with fail
  refine (fail_n (n : Int) w2).mono ?_
  rintro e wf ⟨rfl, gf⟩
  have HTf := Lib.hid (HT2.out.grown gf)
  have HGf := Lib.hid (grownBy_trans HG2.out gf)
  clear gf
  go_wp2_with (refine wpList_putrow rfl rfl w.heap.size rfl #[.int .u8 0, .slice none 0 0, .slice none 0 0] rfl HTf.out (by kernel_rfl) rfl (by simp [Value.oneCell']) ?_; intro W5 hg5 hr5; have HG5 := Lib.hid hg5; have HR5 := Lib.hid hr5; clear hg5 hr5)
  refine bodyPost_ret (results_ctt rfl _ _ w.heap.size 26 #[.int .u8 0, .slice none 0 0, .slice none 0 0] (0, 0) _ _ _ rfl rfl rfl HR5.out Try.underlying26 rfl (by kernel_rfl)) rfl ?_
  exact repP_err (n) _ (rfl) (grownBy_old HGf.out HG5.out (Nat.le_refl _))
set_option maxRecDepth 100000 in
set_option maxHeartbeats 4000000 in
theorem reply_5d2 (a : Option Addr) (n c : Nat) (l : List UInt8) (w : World) (hl : BLies w a l) (hn : l.length = n) (hnm : n ≤ 140737488355328) (hc : n ≤ c) (b off : Nat) (ha : a = some ⟨b, off, none⟩) (hK : (5 : Int) = ((l.getD 0 0).toNat : Int)) (h1 : 1 ≤ n) (hs : 5 ≤ n) (hX0 : 1 ≤ getN l 1 4 ∧ getN l 1 4 ≤ 131072) (hnX : 5 + getN l 1 4 < n) :
    Calls Try.prog 10 #[.slice a n c] w fun e w' => RepP w (decR l) e w' := by
  have hne : ¬ (l = [] ∨ (l.getD 0 0).toNat < 1 ∨ 7 < (l.getD 0 0).toNat) := fun h => by
    rcases h with h | h
    · rw [h] at hn; simp at hn; omega
    · omega
  have hce : ∀ W, w.grownBy W none → ∀ k, k < n → W.cell? ⟨b, off + k, none⟩ = some (.int .u8 ((l.getD k 0).toNat : Int)) := fun W hW k hk => by
    obtain ⟨b', off', e, h⟩ := bytes_cells (hl.grown hW) (by omega)
    rw [ha] at e
    injection e with e
    injection e with e1 e2
    subst e1; subst e2
    exact h k (by omega)
  have HC := Lib.hid hce
  have h00 : ((n : Int) == 0) = false := by rw [beq_eq_false_iff_ne]; omega
  have hK0 : ∀ W, w.grownBy W none → W.cell? ⟨b, off, none⟩ = some (.int .u8 5) := fun W hW => by rw [hK]; exact hce W hW 0 (by omega)
  have HK0 := Lib.hid hK0
  subst ha
  clear hce hK0
  have hd : decR l = .error (min n (5 + getN l 1 4)) := by unfold decR; rw [if_neg hne, if_neg (by omega), if_pos (by omega), if_neg (by omega), if_neg (by omega), if_pos (by omega), hn]
  rw [hd]
  obtain ⟨X, hX⟩ : ∃ X, X = getN l 1 4 := ⟨_, rfl⟩
  have hXlt : X < 4294967296 := by rw [hX]; exact getN_lt l 1
  have hsm : ∀ W, w.grownBy W none → Calls Try.prog 27 #[.slice (midA (some ⟨b, off, none⟩) 1 c) 4 (c - 1)] W fun e w' => e = .returned (.tuple #[.int .u32 (X : Int), .int .i64 0]) ∧ W = w' := fun W hW => by
    have h := small32_any (midA (some ⟨b, off, none⟩) 1 c) (c - 1) 4 ((l.drop 1).take 4) W (mid_lies (hl.grown hW) 1 4 c (by omega) (by omega)) (mid_len (by omega)) (by decide)
    rw [if_neg (by omega), if_neg (by omega)] at h
    rw [hX]
    exact h
  have HSM := Lib.hid hsm
  clear hsm
  have e5 : decide ((n : Int) < 5) = false := decide_eq_false (by omega)
  have e52 : decide (n < 5) = false := decide_eq_false (by omega)
  have hw : IntKind.i64.wrap (X : Int) = (X : Int) := IntWalk.i64_in _ (by omega)
  have x1 : decide ((X : Int) < 1) = false := decide_eq_false (by omega)
  have x2 : decide (X < 1) = false := decide_eq_false (by omega)
  have x3 : decide ((131072 : Int) < (X : Int)) = false := decide_eq_false (by omega)
  have x4 : decide (131072 < X) = false := decide_eq_false (by omega)
  rw [← hX] at hnX hX0 ⊢
  have hXb : X ≤ 131072 := hX0.2
  rw [show min n (5 + X) = 5 + X from by omega]
  have hmin : decide (5 + (X : Int) < (n : Int)) = true := decide_eq_true (by omega)
  have hmin2 : decide (5 + X < n) = true := decide_eq_true (by omega)
  have hnd : ((n : Int) != 5 + (X : Int)) = true := by rw [bne_iff_ne]; omega
  clear hl hn hd hK hne hX hX0 hXlt
  obtain ⟨ir, zr, hir, hirz, hirs, hz⟩ := info_rep
  subst hz
  go_enter Try.func10, Try.ntmps10
  go_upto_region 4 with (refine wpList_made rfl rfl hir hirz ?_; intro w1 hs1 hg1 hr1; have HS1 := Lib.hid hs1; have HG1 := Lib.hid hg1; have HR1 := Lib.hid (show Row w1 w.heap.size 26 #[.int .u8 0, .slice none 0 0, .slice none 0 0] from hr1); clear hs1 hg1 hr1)
  have k0 := HK0.out w1 HG1.out
  go_upto_region 5 with (refine wpList_fresh rfl rfl rfl rfl rfl hir hirz hirs #[.int .u8 5, .slice none 0 0, .slice none 0 0] rfl rfl rfl (by simp [Value.oneCell']) ?_; intro w2 hs2 hg2 hr2; have HS2 := Lib.hid hs2; have HG2 := Lib.hid (grownBy_trans HG1.out hg2); have HR2 := Lib.hid hr2; have HT2 := Lib.hid (HR1.out.grown hg2); have d0 := Row.cell hr2 0; simp at d0; clear k0 hs2 hg2 hr2)
  go_upto_region 24 with fail
  go_upto_region 26 with (first
    | (refine wpList_valp rfl (run_mid_op3 _ _ (.tmp 129) _ _ rfl (some ⟨b, off, none⟩) n c 1 5 4 rfl rfl rfl (by omega) (by omega) rfl) ?_)
    | (go_at_call 27; refine (HSM.out w2 HG2.out).mono ?_; rintro e w' ⟨rfl, rfl⟩))
  go_wp2_with fail
  refine (fail_n (5 + (X : Int)) w2).mono ?_
  rintro e wf ⟨rfl, gf⟩
  have HTf := Lib.hid (HT2.out.grown gf)
  have HGf := Lib.hid (grownBy_trans HG2.out gf)
  clear gf
  go_wp2_with (refine wpList_putrow rfl rfl w.heap.size rfl #[.int .u8 0, .slice none 0 0, .slice none 0 0] rfl HTf.out (by kernel_rfl) rfl (by simp [Value.oneCell']) ?_; intro W5 hg5 hr5; have HG5 := Lib.hid hg5; have HR5 := Lib.hid hr5; clear hg5 hr5)
  refine bodyPost_ret (results_ctt rfl _ _ w.heap.size 26 #[.int .u8 0, .slice none 0 0, .slice none 0 0] (0, 0) _ _ _ rfl rfl rfl HR5.out Try.underlying26 rfl (by kernel_rfl)) rfl ?_
  exact repP_err (5 + X) _ (by omega) (grownBy_old HGf.out HG5.out (Nat.le_refl _))
set_option maxRecDepth 100000 in
set_option maxHeartbeats 4000000 in
theorem reply_5e (a : Option Addr) (n c : Nat) (l : List UInt8) (w : World) (hl : BLies w a l) (hn : l.length = n) (hnm : n ≤ 140737488355328) (hc : n ≤ c) (b off : Nat) (ha : a = some ⟨b, off, none⟩) (hK : (5 : Int) = ((l.getD 0 0).toNat : Int)) (h1 : 1 ≤ n) (hs : 5 ≤ n) (hX0 : 1 ≤ getN l 1 4 ∧ getN l 1 4 ≤ 131072) (hnX : n = 5 + getN l 1 4) :
    Calls Try.prog 10 #[.slice a n c] w fun e w' => RepP w (decR l) e w' := by
  have hne : ¬ (l = [] ∨ (l.getD 0 0).toNat < 1 ∨ 7 < (l.getD 0 0).toNat) := fun h => by
    rcases h with h | h
    · rw [h] at hn; simp at hn; omega
    · omega
  have hce : ∀ W, w.grownBy W none → ∀ k, k < n → W.cell? ⟨b, off + k, none⟩ = some (.int .u8 ((l.getD k 0).toNat : Int)) := fun W hW k hk => by
    obtain ⟨b', off', e, h⟩ := bytes_cells (hl.grown hW) (by omega)
    rw [ha] at e
    injection e with e
    injection e with e1 e2
    subst e1; subst e2
    exact h k (by omega)
  have HC := Lib.hid hce
  have h00 : ((n : Int) == 0) = false := by rw [beq_eq_false_iff_ne]; omega
  have hK0 : ∀ W, w.grownBy W none → W.cell? ⟨b, off, none⟩ = some (.int .u8 5) := fun W hW => by rw [hK]; exact hce W hW 0 (by omega)
  have HK0 := Lib.hid hK0
  subst ha
  clear hce hK0
  have hd : decR l = .ok ⟨5, [], l.drop 5⟩ := by unfold decR; rw [if_neg hne, if_neg (by omega), if_pos (by omega), if_neg (by omega), if_neg (by omega), if_neg (by omega)]
  rw [hd]
  obtain ⟨X, hX⟩ : ∃ X, X = getN l 1 4 := ⟨_, rfl⟩
  have hXlt : X < 4294967296 := by rw [hX]; exact getN_lt l 1
  have hsm : ∀ W, w.grownBy W none → Calls Try.prog 27 #[.slice (midA (some ⟨b, off, none⟩) 1 c) 4 (c - 1)] W fun e w' => e = .returned (.tuple #[.int .u32 (X : Int), .int .i64 0]) ∧ W = w' := fun W hW => by
    have h := small32_any (midA (some ⟨b, off, none⟩) 1 c) (c - 1) 4 ((l.drop 1).take 4) W (mid_lies (hl.grown hW) 1 4 c (by omega) (by omega)) (mid_len (by omega)) (by decide)
    rw [if_neg (by omega), if_neg (by omega)] at h
    rw [hX]
    exact h
  have HSM := Lib.hid hsm
  clear hsm
  have e5 : decide ((n : Int) < 5) = false := decide_eq_false (by omega)
  have e52 : decide (n < 5) = false := decide_eq_false (by omega)
  have hw : IntKind.i64.wrap (X : Int) = (X : Int) := IntWalk.i64_in _ (by omega)
  have x1 : decide ((X : Int) < 1) = false := decide_eq_false (by omega)
  have x2 : decide (X < 1) = false := decide_eq_false (by omega)
  have x3 : decide ((131072 : Int) < (X : Int)) = false := decide_eq_false (by omega)
  have x4 : decide (131072 < X) = false := decide_eq_false (by omega)
  rw [← hX] at hnX hX0
  have hXb : X ≤ 131072 := hX0.2
  have hcl : ∀ W, w.grownBy W none → _ := fun W hW => clone_n (midA (some ⟨b, off, none⟩) 5 c) (c - 5) X (l.drop 5) W (suf_lies (hl.grown hW) 5 c (by omega) (by omega)) (by rw [List.length_drop]; omega) (by omega)
  have HCL := Lib.hid hcl
  have hnd : ((n : Int) != 5 + (X : Int)) = false := by rw [bne_eq_false_iff_eq]; omega
  have HN5 := Lib.hid (show n - 5 = X by omega)
  clear hl hn hd hK hne hX hX0 hXlt hcl hnX
  obtain ⟨ir, zr, hir, hirz, hirs, hz⟩ := info_rep
  subst hz
  go_enter Try.func10, Try.ntmps10
  go_upto_region 4 with (refine wpList_made rfl rfl hir hirz ?_; intro w1 hs1 hg1 hr1; have HS1 := Lib.hid hs1; have HG1 := Lib.hid hg1; have HR1 := Lib.hid (show Row w1 w.heap.size 26 #[.int .u8 0, .slice none 0 0, .slice none 0 0] from hr1); clear hs1 hg1 hr1)
  have k0 := HK0.out w1 HG1.out
  go_upto_region 5 with (refine wpList_fresh rfl rfl rfl rfl rfl hir hirz hirs #[.int .u8 5, .slice none 0 0, .slice none 0 0] rfl rfl rfl (by simp [Value.oneCell']) ?_; intro w2 hs2 hg2 hr2; have HS2 := Lib.hid hs2; have HG2 := Lib.hid (grownBy_trans HG1.out hg2); have HR2 := Lib.hid hr2; have HT2 := Lib.hid (HR1.out.grown hg2); have d0 := Row.cell hr2 0; simp at d0; clear k0 hs2 hg2 hr2)
  go_upto_region 24 with fail
  go_upto_region 26 with (first
    | (refine wpList_valp rfl (run_mid_op3 _ _ (.tmp 129) _ _ rfl (some ⟨b, off, none⟩) n c 1 5 4 rfl rfl rfl (by omega) (by omega) rfl) ?_)
    | (go_at_call 27; refine (HSM.out w2 HG2.out).mono ?_; rintro e w' ⟨rfl, rfl⟩))
  go_upto_region 31 with fail
  clear hw
  go_wp2_with (refine wpList_valp rfl (run_suf_op3 _ _ (.tmp 167) (.tmp 168) rfl (some ⟨b, off, none⟩) n c 5 X rfl rfl (by omega) HN5.out) ?_)
  refine (HCL.out w2 HG2.out).mono ?_
  rintro e w3 ⟨a', c', rfl, hown3, hg3⟩
  have hs1 := HS1.out
  have hz2 := HG2.out.size
  have HO3 := Lib.hid hown3
  have HG3 := Lib.hid (grownBy_trans HG2.out hg3)
  have HR3 := Lib.hid (HR2.out.grown hg3)
  have HT3 := Lib.hid (HT2.out.grown hg3)
  have e2 := Row.cell HR3.out 2
  have f2 := Row.frozen HR3.out 2
  simp at e2
  have hb2 := HR2.out.lt
  obtain ⟨bo, hbo⟩ : ∃ bo, bo = w1.heap.size := ⟨_, rfl⟩
  rw [← hbo] at HR3 e2 f2 hb2 ⊢
  have hbw : w.heap.size < bo := by omega
  clear hbo hown3 hg3 d0 hs1 hz2
  go_upto_region 32 with fail
  obtain ⟨W4, hW4⟩ : ∃ W4, W4 = w3.setCell ⟨bo, 2, none⟩ (.slice a' X c') := ⟨_, rfl⟩
  rw [← hW4]
  have hg4 : w3.grownBy W4 (some bo) := hW4 ▸ grownBy_setCell _ _ _ _
  have HR4 := Lib.hid (show Row W4 bo 26 #[.int .u8 5, .slice none 0 0, .slice a' X c'] from hW4 ▸ Row.setc HR3.out 2 (.slice a' X c'))
  have HT4 := Lib.hid (HT3.out.grownNe hg4 (by omega))
  have HG4 := Lib.hid (grownBy_old HG3.out hg4 (by omega))
  have ho4 : BOwn W4 w2.heap.size a' X c' (l.drop 5) := Own.ch HO3.out (Ch.ofSome (S := fun k => k = bo) hg4 rfl) (fun h0 g e h => by
    have := (Own.inn HO3.out (g := g) ⟨h0, e⟩).1
    omega)
  have HO4 := Lib.hid ho4
  clear ho4 hg4 hW4 e2 f2 HR3 HT3 HG3 HO3 HR2 HT2 HR1
  go_wp2_with (first | (refine wpList_load_row rfl 26 _ rfl bo rfl 26 #[.int .u8 5, .slice none 0 0, (.slice a' X c')] (0, 0) _ HR4.out Try.underlying26 rfl (by kernel_rfl) ?_) | (refine wpList_putrow rfl rfl w.heap.size rfl #[.int .u8 5, .slice none 0 0, (.slice a' X c')] rfl HT4.out (by kernel_rfl) rfl (by simp [Value.oneCell']) ?_; intro W5 hg5 hr5; have HG5 := Lib.hid hg5; have HR5 := Lib.hid hr5; clear hg5 hr5))
  refine bodyPost_ret (results_ctt rfl _ _ w.heap.size 26 #[.int .u8 5, .slice none 0 0, (.slice a' X c')] (0, 0) _ _ _ rfl rfl rfl HR5.out Try.underlying26 rfl (by kernel_rfl)) rfl ?_
  have ho5 := Own.ch HO4.out (Ch.ofSome (S := fun k => k = w.heap.size) HG5.out rfl) (fun h0 g e h => by
    have := (Own.inn HO4.out (g := g) ⟨h0, e⟩).1
    omega)
  exact ⟨none, 0, 0, _, _, _, rfl, Own.nil _ _ _ _ _, Own.mono ho5 HG2.out.size, grownBy_old HG4.out HG5.out (Nat.le_refl _)⟩
end Go.Proofs.Ytkdmebcfedehiaa
/- wire.Reply: numbers; and of all bytes. Printed by gens/wirereply.py. -/
namespace Go.Proofs.Ytkdmebcfedehiaa
open Go.RowKit

theorem decR_1 {l : List UInt8} (hk : ((l.getD 0 0).toNat : Int) = 1) (h2 : 2 ≤ l.length) : decR l = (if firstBad ((l.drop 2).take (l.getD 1 0).toNat) < ((l.drop 2).take (l.getD 1 0).toNat).length then .error (2 + firstBad ((l.drop 2).take (l.getD 1 0).toNat)) else if l.length ≠ 2 + (l.getD 1 0).toNat then .error (min l.length (2 + (l.getD 1 0).toNat)) else .ok ⟨1, (l.drop 2).map byN, []⟩) := by
  unfold decR
  rw [if_neg (fun h => by
    rcases h with h | h
    · rw [h] at h2; simp at h2
    · omega), if_pos (by omega), if_neg (by omega)]
theorem getD_tk {l : List UInt8} {M j : Nat} (h : j < ((l.drop 2).take M).length) : ((l.drop 2).take M).getD j 0 = l.getD (2 + j) 0 := by
  rw [List.length_take, List.length_drop] at h
  rw [List.getD_eq_getElem?_getD, List.getD_eq_getElem?_getD, List.getElem?_take, if_pos (by omega), List.getElem?_drop]

set_option maxRecDepth 100000 in
set_option maxHeartbeats 4000000 in
theorem reply_1a (a : Option Addr) (n c : Nat) (l : List UInt8) (w : World) (hl : BLies w a l) (hn : l.length = n) (hnm : n ≤ 140737488355328) (hc : n ≤ c) (b off : Nat) (ha : a = some ⟨b, off, none⟩) (hK : (1 : Int) = ((l.getD 0 0).toNat : Int)) (h1 : 1 ≤ n) (hs : n < 2) :
    Calls Try.prog 10 #[.slice a n c] w fun e w' => RepP w (decR l) e w' := by
  have hne : ¬ (l = [] ∨ (l.getD 0 0).toNat < 1 ∨ 7 < (l.getD 0 0).toNat) := fun h => by
    rcases h with h | h
    · rw [h] at hn; simp at hn; omega
    · omega
  have hce : ∀ W, w.grownBy W none → ∀ k, k < n → W.cell? ⟨b, off + k, none⟩ = some (.int .u8 ((l.getD k 0).toNat : Int)) := fun W hW k hk => by
    obtain ⟨b', off', e, h⟩ := bytes_cells (hl.grown hW) (by omega)
    rw [ha] at e
    injection e with e
    injection e with e1 e2
    subst e1; subst e2
    exact h k (by omega)
  have HC := Lib.hid hce
  have h00 : ((n : Int) == 0) = false := by rw [beq_eq_false_iff_ne]; omega
  have hK0 : ∀ W, w.grownBy W none → W.cell? ⟨b, off, none⟩ = some (.int .u8 1) := fun W hW => by rw [hK]; exact hce W hW 0 (by omega)
  have HK0 := Lib.hid hK0
  subst ha
  clear hce hK0
  have hd : decR l = .error n := by unfold decR; rw [if_neg hne, if_pos (by omega), if_pos (by omega), hn]
  rw [hd]
  have e5 : decide ((n : Int) < 2) = true := decide_eq_true (by omega)
  have e52 : decide (n < 2) = true := decide_eq_true hs
  clear hl hn hd hK hne hc hs
  obtain ⟨ir, zr, hir, hirz, hirs, hz⟩ := info_rep
  subst hz
  go_enter Try.func10, Try.ntmps10
  go_upto_region 4 with (refine wpList_made rfl rfl hir hirz ?_; intro w1 hs1 hg1 hr1; have HS1 := Lib.hid hs1; have HG1 := Lib.hid hg1; have HR1 := Lib.hid (show Row w1 w.heap.size 26 #[.int .u8 0, .slice none 0 0, .slice none 0 0] from hr1); clear hs1 hg1 hr1)
  have k0 := HK0.out w1 HG1.out
  go_upto_region 5 with (refine wpList_fresh rfl rfl rfl rfl rfl hir hirz hirs #[.int .u8 1, .slice none 0 0, .slice none 0 0] rfl rfl rfl (by simp [Value.oneCell']) ?_; intro w2 hs2 hg2 hr2; have HS2 := Lib.hid hs2; have HG2 := Lib.hid (grownBy_trans HG1.out hg2); have HR2 := Lib.hid hr2; have HT2 := Lib.hid (HR1.out.grown hg2); have d0 := Row.cell hr2 0; simp at d0; clear k0 hs2 hg2 hr2)
  go_wp2_with fail
  refine (fail_n (n : Int) w2).mono ?_
  rintro e wf ⟨rfl, gf⟩
  have HTf := Lib.hid (HT2.out.grown gf)
  have HGf := Lib.hid (grownBy_trans HG2.out gf)
  clear gf
  go_wp2_with (refine wpList_putrow rfl rfl w.heap.size rfl #[.int .u8 0, .slice none 0 0, .slice none 0 0] rfl HTf.out (by kernel_rfl) rfl (by simp [Value.oneCell']) ?_; intro W5 hg5 hr5; have HG5 := Lib.hid hg5; have HR5 := Lib.hid hr5; clear hg5 hr5)
  refine bodyPost_ret (results_ctt rfl _ _ w.heap.size 26 #[.int .u8 0, .slice none 0 0, .slice none 0 0] (0, 0) _ _ _ rfl rfl rfl HR5.out Try.underlying26 rfl (by kernel_rfl)) rfl ?_
  exact repP_err (n) _ (rfl) (grownBy_old HGf.out HG5.out (Nat.le_refl _))
set_option maxRecDepth 100000 in
set_option maxHeartbeats 4000000 in
theorem reply_1 (a : Option Addr) (n c : Nat) (l : List UInt8) (w : World) (hl : BLies w a l) (hn : l.length = n) (hnm : n ≤ 140737488355328) (hc : n ≤ c) (b off : Nat) (ha : a = some ⟨b, off, none⟩) (hK : (1 : Int) = ((l.getD 0 0).toNat : Int)) (h1 : 1 ≤ n) (hs : 2 ≤ n) :
    Calls Try.prog 10 #[.slice a n c] w fun e w' => RepP w (decR l) e w' := by
  have HD := Lib.hid (decR_1 hK.symm (by omega))
  have hce : ∀ W, w.grownBy W none → ∀ k, k < n → W.cell? ⟨b, off + k, none⟩ = some (.int .u8 ((l.getD k 0).toNat : Int)) := fun W hW k hk => by
    obtain ⟨b', off', e, h⟩ := bytes_cells (hl.grown hW) (by omega)
    rw [ha] at e
    injection e with e
    injection e with e1 e2
    subst e1; subst e2
    exact h k (by omega)
  have HC := Lib.hid hce
  have h00 : ((n : Int) == 0) = false := by rw [beq_eq_false_iff_ne]; omega
  have hK0 : ∀ W, w.grownBy W none → W.cell? ⟨b, off, none⟩ = some (.int .u8 1) := fun W hW => by rw [hK]; exact hce W hW 0 (by omega)
  have HK0 := Lib.hid hK0
  subst ha
  clear hce hK0
  obtain ⟨M, hM⟩ : ∃ M, M = (l.getD 1 0).toNat := ⟨_, rfl⟩
  obtain ⟨T, hT⟩ : ∃ T, T = (l.drop 2).take (l.getD 1 0).toNat := ⟨_, rfl⟩
  rw [← hT] at HD
  rw [← hM] at hT
  have hMb : M ≤ 255 := by have := (l.getD 1 0).toNat_lt; omega
  obtain ⟨R, hR⟩ : ∃ R, R = min n (2 + M) := ⟨_, rfl⟩
  obtain ⟨q, hq⟩ : ∃ q, q = R - 2 := ⟨_, rfl⟩
  have HTL := Lib.hid (show T.length = q by rw [hT, List.length_take, List.length_drop]; omega)
  have HRq := Lib.hid (show R - 2 = q by omega)
  have HR2' := Lib.hid (show R ≤ c by omega)
  have hqb : q ≤ 255 := by omega
  have HQB := Lib.hid hqb
  have hqn : q + 2 ≤ n := by omega
  have HQ := Lib.hid hqn
  have HMM := Lib.hid hM
  have HTT := Lib.hid hT
  have HNN := Lib.hid hn
  have hif : (if 2 + (M : Int) < (n : Int) then 2 + (M : Int) else (n : Int)) = (R : Int) := by split <;> omega
  obtain ⟨A, hA⟩ : ∃ A, A = midA (some ⟨b, off, none⟩) 2 c := ⟨_, rfl⟩
  have HA := Lib.hid (show ∀ W, w.grownBy W none → BLies W A T from fun W hW => by
    have h := mid_lies (hl.grown hW) 2 q c (by omega) (by omega)
    rw [hA]
    have e : (l.drop 2).take q = T := by
      rw [hT]
      by_cases h2 : n ≤ 2 + M
      · rw [List.take_of_length_le (by rw [List.length_drop]; omega), List.take_of_length_le (by rw [List.length_drop]; omega)]
      · rw [show q = M by omega]
    rw [e] at h
    exact h)
  have HAA := Lib.hid hA
  have HM1 := Lib.hid (show ∀ W, w.grownBy W none → W.cell? ⟨b, off + 1, none⟩ = some (.int .u8 (M : Int)) from fun W hW => by rw [hM]; exact HC.out W hW 1 (by omega))
  have e5 : decide ((n : Int) < 2) = false := decide_eq_false (by omega)
  have e52 : decide (n < 2) = false := decide_eq_false (by omega)
  have eM : decide ((255 : Int) < (M : Int)) = false := decide_eq_false (by omega)
  have eM2 : decide (255 < M) = false := decide_eq_false (by omega)
  have hwM : IntKind.i64.wrap (M : Int) = (M : Int) := IntWalk.i64_in _ (by omega)
  clear hl hn hK hc hM hT hR hq hA
  obtain ⟨ir, zr, hir, hirz, hirs, hz⟩ := info_rep
  subst hz
  go_enter Try.func10, Try.ntmps10
  go_upto_region 4 with (refine wpList_made rfl rfl hir hirz ?_; intro w1 hs1 hg1 hr1; have HS1 := Lib.hid hs1; have HG1 := Lib.hid hg1; have HR1 := Lib.hid (show Row w1 w.heap.size 26 #[.int .u8 0, .slice none 0 0, .slice none 0 0] from hr1); clear hs1 hg1 hr1)
  have k0 := HK0.out w1 HG1.out
  go_upto_region 5 with (refine wpList_fresh rfl rfl rfl rfl rfl hir hirz hirs #[.int .u8 1, .slice none 0 0, .slice none 0 0] rfl rfl rfl (by simp [Value.oneCell']) ?_; intro w2 hs2 hg2 hr2; have HS2 := Lib.hid hs2; have HG2 := Lib.hid (grownBy_trans HG1.out hg2); have HR2 := Lib.hid hr2; have HT2 := Lib.hid (HR1.out.grown hg2); have d0 := Row.cell hr2 0; simp at d0; clear k0 hs2 hg2 hr2)
  go_upto_region 11 with fail
  have hm1 := HM1.out w2 HG2.out
  go_quiet (fail)
  obtain ⟨w3, h3⟩ : ∃ w3, w3 = w2.drewN nq := ⟨_, rfl⟩
  rw [← h3]
  have hg3 : w2.grownBy w3 none := h3 ▸ grownBy_drewN _ _ _
  have HG3 := Lib.hid (grownBy_trans HG2.out hg3)
  have HR3 := Lib.hid (HR2.out.grown hg3)
  have HT3 := Lib.hid (HT2.out.grown hg3)
  clear h3 hg3 d0 hm1 hwM
  obtain ⟨B, hB⟩ : ∃ B, B = w3.heap.size := ⟨_, rfl⟩
  obtain ⟨bo, hbo⟩ : ∃ bo, bo = w1.heap.size := ⟨_, rfl⟩
  rw [← hbo] at HR3 ⊢
  have HBB := Lib.hid (show w.heap.size < bo ∧ bo < B from ⟨by rw [hbo]; exact HR1.out.lt, by rw [hB]; exact HR3.out.lt⟩)
  have HBZ := Lib.hid (show B ≤ w3.heap.size by omega)
  clear hB hbo
  go_wp2_with (refine wpList_valp rfl (run_mid_op3 _ _ (.tmp 64) (.tmp 65) (.tmp 71) rfl (some ⟨b, off, none⟩) n c 2 R q rfl rfl rfl (by omega) HR2'.out HRq.out) ?_; rw [← HAA.out])
  clear hif e5 e52 eM eM2
  go_loopw [74] (fun vi wr => ∃ (j : Nat) (an : Option Addr) (cn : Nat), j ≤ q ∧ vi = .int .i64 (j : Int) ∧ Row wr bo 26 #[.int .u8 1, .slice an j cn, .slice none 0 0] ∧ IOwn wr B an j cn ((T.take j).map byN) ∧ Row wr w.heap.size 26 #[.int .u8 0, .slice none 0 0, .slice none 0 0] ∧ w.grownBy wr none ∧ B ≤ wr.heap.size ∧ ∀ i, i < j → okN T i = true) (fun vi _ => q - (intOf vi).toNat)
  case atStart => exact ⟨0, none, 0, by omega, rfl, HR3.out, Own.nil _ _ _ _ _, HT3.out, HG3.out, HBZ.out, fun i h => absurd h (by omega)⟩
  case round =>
    obtain ⟨j, an, cn, hj, rfl, hr, ho, ht, hg, hz, hok⟩ := hrel
    have HR := Lib.hid hr
    have HO := Lib.hid ho
    have HT := Lib.hid ht
    have HG := Lib.hid hg
    have HZ := Lib.hid hz
    have HOK := Lib.hid hok
    clear hr ho ht hg hz hok
    by_cases hlt : j < q
    · obtain ⟨b2, off2, rfl, hc2⟩ := bytes_cells (HA.out wr HG.out) (by have := HTL.out; omega)
      have hjl : j < T.length := by have := HTL.out; omega
      have hcj := hc2 j hjl
      obtain ⟨x, hx⟩ : ∃ x, x = T.getD j 0 := ⟨_, rfl⟩
      rw [← hx] at hcj
      have hxb := x.toNat_lt
      obtain ⟨X, hX⟩ : ∃ X : Int, X = (x.toNat : Int) := ⟨_, rfl⟩
      rw [← hX] at hcj
      have hX0 : 0 ≤ X ∧ X ≤ 255 := by omega
      have HX0 := Lib.hid hX0
      have hwX : IntKind.i64.wrap X = X := IntWalk.i64_in _ (by omega)
      have hoj : okN T j = (decide (X ≠ 255) && (decide (j = 0) || decide ((T.getD (j - 1) 0).toNat < x.toNat))) := by
        unfold okN
        rw [← hx]
        have h255 : x = 255 ↔ X = 255 := by rw [← UInt8.toNat_inj, hX]; exact ⟨fun h => by rw [h]; rfl, fun h => by have e : (255 : UInt8).toNat = 255 := rfl; omega⟩
        congr 1
        exact decide_eq_decide.2 (not_congr h255)
      have HOJ := Lib.hid hoj
      have HXX := Lib.hid hX
      have HXT := Lib.hid hx
      clear hc2 hoj hx hX hxb hX0
      by_cases hx5 : X = 255
      · subst hx5
        have hbad : firstBad T = j := firstBad_at hjl HOK.out (by rw [HOJ.out]; rfl)
        go_upto_region 18 with (go_at_call 26; refine (number_n 255 _).mono ?_; rintro e w' ⟨rfl, rfl⟩)
        go_wp2_with fail
        refine (fail_n (2 + (j : Int)) wr).mono ?_
        rintro e wf ⟨rfl, gf⟩
        have HTf := Lib.hid (HT.out.grown gf)
        have HGf := Lib.hid (grownBy_trans HG.out gf)
        clear gf
        go_wp2_with (refine wpList_putrow rfl rfl w.heap.size rfl #[.int .u8 0, .slice none 0 0, .slice none 0 0] rfl HTf.out (by kernel_rfl) rfl (by simp [Value.oneCell']) ?_; intro W5 hg5 hr5; have HG5 := Lib.hid hg5; have HR5 := Lib.hid hr5; clear hg5 hr5)
        refine bodyPost_ret (results_ctt rfl _ _ w.heap.size 26 #[.int .u8 0, .slice none 0 0, .slice none 0 0] (0, 0) _ _ _ rfl rfl rfl HR5.out Try.underlying26 rfl (by kernel_rfl)) rfl ?_
        rw [HD.out, if_pos (by rw [hbad]; exact hjl), hbad]
        exact repP_err (2 + j) _ (by omega) (grownBy_old HGf.out HG5.out (Nat.le_refl _))
      · have hnum : (decide (0 ≤ X) && decide (X < 255)) = true := by have := HX0.out; rw [decide_eq_true (by omega), decide_eq_true (by omega)]; rfl
        by_cases hj0 : j = 0
        · subst hj0
          have hok0 : okN T 0 = true := by rw [HOJ.out, decide_eq_true hx5]; rfl
          have HK0' := Lib.hid hok0
          clear hok0
          simp only [Nat.add_zero] at hcj
          go_upto_region 19 with (go_at_call 26; refine (number_n X _).mono ?_; rintro e w' ⟨rfl, rfl⟩; rw [hnum])
          have d1 := Row.cell HR.out 1
          simp at d1
          go_wp2_with (at_builtin; refine wpList_push elI rfl (.tmp 107) (.tmp 110) rfl rfl HO.out (.int .i64 X) rfl rfl (by unfold maxLen; have := HQB.out; omega) (by have := HQB.out; omega) HZ.out ?_; intro g5 cap5 w5 hown5 hgr5; have HO5 := Lib.hid hown5; have HCH := Lib.hid hgr5.ch; have HIN5 := Lib.hid (fun (y : Nat) (h : In an cn y) => (Own.inn HO.out h).1); have HR5 := Lib.hid (Row.ch HR.out hgr5.ch (fun h => by have := (Own.inn HO.out h).1; have := HBB.out; omega)); have e1 := Row.cell HR5.out 1; have f1 := Row.frozen HR5.out 1; simp at e1; clear hown5 hgr5 d1)
          obtain ⟨W4, hW4⟩ : ∃ W4, W4 = w5.setCell ⟨bo, 1, none⟩ (.slice (some ⟨g5, 0, none⟩) 1 cap5) := ⟨_, rfl⟩
          rw [← hW4]
          have hg4 : w5.grownBy W4 (some bo) := hW4 ▸ grownBy_setCell _ _ _ _
          have HR6 := Lib.hid (show Row W4 bo 26 #[.int .u8 1, .slice (some ⟨g5, 0, none⟩) 1 cap5, .slice none 0 0] from hW4 ▸ Row.setc HR5.out 1 _)
          have HO6 := Lib.hid (show Own W4 B 3 1 (some ⟨g5, 0, none⟩) 1 cap5 _ from Own.ch HO5.out (Ch.ofSome (S := fun k => k = bo) hg4 rfl) (fun h0 g e h => by
            have := (Own.inn HO5.out (g := g) ⟨h0, e⟩).1
            have := HBB.out
            omega))
          have HT6 := Lib.hid ((Row.ch HT.out HCH.out (fun h => by have := HIN5.out _ h; have := HBB.out; omega)).grownNe hg4 (by have := HBB.out; omega))
          have HG6 := Lib.hid (grownBy_old (Ch.fresh HG.out HCH.out (fun g hg h => by have := HIN5.out _ h; have := HBB.out; omega)) hg4 (by have := HBB.out; omega))
          have HZ6 := Lib.hid (Nat.le_trans HZ.out (Nat.le_trans HCH.out.size hg4.size))
          clear hW4 hg4 e1 f1
          go_roundw
          case rel =>
            refine ⟨1, _, _, by omega, by first | rfl | go_num, HR6.out, ?_, HT6.out, HG6.out, HZ6.out, fun i hi => ?_⟩
            · have h := HO6.out
              have e : (T.take (1)).map byN = (T.take (0)).map byN ++ [X] := by
                rw [show 1 = 0 + 1 from rfl, List.take_succ_eq_append_getElem hjl, List.map_append, List.map_singleton]
                congr 2
                rw [HXX.out, HXT.out, List.getD_eq_getElem?_getD, List.getElem?_eq_getElem hjl]
                rfl
              rw [e]
              unfold IOwn IV
              rw [List.map_append]
              exact h
            · by_cases e : i = 0
              · rw [e]; exact HK0'.out
              · exact HOK.out i (by omega)
          case measure => simp [intOf]; omega
        · have hj1 : decide (0 < j) = true := decide_eq_true (by omega)
          have hj2 : decide ((0 : Int) < (j : Int)) = true := decide_eq_true (by omega)
          obtain ⟨Y, hY⟩ : ∃ Y : Int, Y = ((T.getD (j - 1) 0).toNat : Int) := ⟨_, rfl⟩
          have hcp : wr.cell? ⟨b, off + (1 + j), none⟩ = some (.int .u8 Y) := by
            have h := HC.out wr HG.out (1 + j) (by have := HQ.out; omega)
            have e : T.getD (j - 1) 0 = l.getD (1 + j) 0 := by
              rw [HTT.out, getD_tk (by rw [← HTT.out]; omega)]
              congr 1
              omega
            rw [hY, e]
            exact h
          have hjm : ((1 + j : Nat) : Int) = 2 + (j : Int) - 1 := by omega
          by_cases hxy : Y < X
          · have hd : decide (X ≤ Y) = false := decide_eq_false (by omega)
            have hokj : okN T j = true := by
              rw [HOJ.out, decide_eq_true hx5, decide_eq_true (show (T.getD (j - 1) 0).toNat < x.toNat by have := HXX.out; omega)]
              simp
            have HK0' := Lib.hid hokj
            clear hokj hY
            go_upto_region 19 with (go_at_call 26; refine (number_n X _).mono ?_; rintro e w' ⟨rfl, rfl⟩; rw [hnum])
            have d1 := Row.cell HR.out 1
            simp at d1
            go_wp2_with (at_builtin; refine wpList_push elI rfl (.tmp 107) (.tmp 110) rfl rfl HO.out (.int .i64 X) rfl rfl (by unfold maxLen; have := HQB.out; omega) (by have := HQB.out; omega) HZ.out ?_; intro g5 cap5 w5 hown5 hgr5; have HO5 := Lib.hid hown5; have HCH := Lib.hid hgr5.ch; have HIN5 := Lib.hid (fun (y : Nat) (h : In an cn y) => (Own.inn HO.out h).1); have HR5 := Lib.hid (Row.ch HR.out hgr5.ch (fun h => by have := (Own.inn HO.out h).1; have := HBB.out; omega)); have e1 := Row.cell HR5.out 1; have f1 := Row.frozen HR5.out 1; simp at e1; clear hown5 hgr5 d1)
            obtain ⟨W4, hW4⟩ : ∃ W4, W4 = w5.setCell ⟨bo, 1, none⟩ (.slice (some ⟨g5, 0, none⟩) (j + 1) cap5) := ⟨_, rfl⟩
            rw [← hW4]
            have hg4 : w5.grownBy W4 (some bo) := hW4 ▸ grownBy_setCell _ _ _ _
            have HR6 := Lib.hid (show Row W4 bo 26 #[.int .u8 1, .slice (some ⟨g5, 0, none⟩) (j + 1) cap5, .slice none 0 0] from hW4 ▸ Row.setc HR5.out 1 _)
            have HO6 := Lib.hid (show Own W4 B 3 1 (some ⟨g5, 0, none⟩) (j + 1) cap5 _ from Own.ch HO5.out (Ch.ofSome (S := fun k => k = bo) hg4 rfl) (fun h0 g e h => by
              have := (Own.inn HO5.out (g := g) ⟨h0, e⟩).1
              have := HBB.out
              omega))
            have HT6 := Lib.hid ((Row.ch HT.out HCH.out (fun h => by have := HIN5.out _ h; have := HBB.out; omega)).grownNe hg4 (by have := HBB.out; omega))
            have HG6 := Lib.hid (grownBy_old (Ch.fresh HG.out HCH.out (fun g hg h => by have := HIN5.out _ h; have := HBB.out; omega)) hg4 (by have := HBB.out; omega))
            have HZ6 := Lib.hid (Nat.le_trans HZ.out (Nat.le_trans HCH.out.size hg4.size))
            clear hW4 hg4 e1 f1
            go_roundw
            case rel =>
              refine ⟨(j + 1), _, _, by omega, by first | rfl | go_num, HR6.out, ?_, HT6.out, HG6.out, HZ6.out, fun i hi => ?_⟩
              · have h := HO6.out
                have e : (T.take ((j + 1))).map byN = (T.take (j)).map byN ++ [X] := by
                  rw [List.take_succ_eq_append_getElem hjl, List.map_append, List.map_singleton]
                  congr 2
                  rw [HXX.out, HXT.out, List.getD_eq_getElem?_getD, List.getElem?_eq_getElem hjl]
                  rfl
                rw [e]
                unfold IOwn IV
                rw [List.map_append]
                exact h
              · by_cases e : i = j
                · rw [e]; exact HK0'.out
                · exact HOK.out i (by omega)
            case measure => simp [intOf]; omega
          · have hd : decide (X ≤ Y) = true := decide_eq_true (by omega)
            have hbad : firstBad T = j := firstBad_at hjl HOK.out (by
              rw [HOJ.out, decide_eq_false hj0, decide_eq_false (show ¬ (T.getD (j - 1) 0).toNat < x.toNat by have := HXX.out; omega)]
              simp)
            clear hY
            go_upto_region 18 with (go_at_call 26; refine (number_n X _).mono ?_; rintro e w' ⟨rfl, rfl⟩; rw [hnum])
            go_wp2_with fail
            refine (fail_n (2 + (j : Int)) wr).mono ?_
            rintro e wf ⟨rfl, gf⟩
            have HTf := Lib.hid (HT.out.grown gf)
            have HGf := Lib.hid (grownBy_trans HG.out gf)
            clear gf
            go_wp2_with (refine wpList_putrow rfl rfl w.heap.size rfl #[.int .u8 0, .slice none 0 0, .slice none 0 0] rfl HTf.out (by kernel_rfl) rfl (by simp [Value.oneCell']) ?_; intro W5 hg5 hr5; have HG5 := Lib.hid hg5; have HR5 := Lib.hid hr5; clear hg5 hr5)
            refine bodyPost_ret (results_ctt rfl _ _ w.heap.size 26 #[.int .u8 0, .slice none 0 0, .slice none 0 0] (0, 0) _ _ _ rfl rfl rfl HR5.out Try.underlying26 rfl (by kernel_rfl)) rfl ?_
            rw [HD.out, if_pos (by rw [hbad]; exact hjl), hbad]
            exact repP_err (2 + j) _ (by omega) (grownBy_old HGf.out HG5.out (Nat.le_refl _))
    · obtain rfl : j = q := by omega
      have hall : firstBad T = T.length := firstBad_none (fun i hi => HOK.out i (by have := HTL.out; omega))
      rcases Nat.lt_trichotomy n (2 + M) with hcmp | hcmp | hcmp
      · have HNM := Lib.hid hcmp
        clear hcmp
        have hnd : ((n : Int) != 2 + (M : Int)) = true := by rw [bne_iff_ne]; have := HNM.out; omega
        have hmn : decide (2 + (M : Int) < (n : Int)) = false := decide_eq_false (by have := HNM.out; omega)
        have hif : (if 2 + (M : Int) < (n : Int) then 2 + (M : Int) else (n : Int)) = (n : Int) := by have := HNM.out; split <;> omega
        go_wp2_with fail
        refine (fail_n (n : Int) wr).mono ?_
        rintro e wf ⟨rfl, gf⟩
        have HTf := Lib.hid (HT.out.grown gf)
        have HGf := Lib.hid (grownBy_trans HG.out gf)
        clear gf
        go_wp2_with (refine wpList_putrow rfl rfl w.heap.size rfl #[.int .u8 0, .slice none 0 0, .slice none 0 0] rfl HTf.out (by kernel_rfl) rfl (by simp [Value.oneCell']) ?_; intro W5 hg5 hr5; have HG5 := Lib.hid hg5; have HR5 := Lib.hid hr5; clear hg5 hr5)
        refine bodyPost_ret (results_ctt rfl _ _ w.heap.size 26 #[.int .u8 0, .slice none 0 0, .slice none 0 0] (0, 0) _ _ _ rfl rfl rfl HR5.out Try.underlying26 rfl (by kernel_rfl)) rfl ?_
        rw [HD.out, if_neg (by rw [hall]; omega), if_pos (by rw [HNN.out, ← HMM.out]; have := HNM.out; omega), HNN.out, ← HMM.out, show min n (2 + M) = n from by have := HNM.out; omega]
        exact repP_err (n) _ (by omega) (grownBy_old HGf.out HG5.out (Nat.le_refl _))
      · have HNM := Lib.hid hcmp
        clear hcmp
        have hnd : ((n : Int) != 2 + (M : Int)) = false := by rw [bne_eq_false_iff_eq]; have := HNM.out; omega
        have k1 := Row.cell HR.out 0
        simp at k1
        go_upto_region 32 with fail
        go_wp2_with (first | (refine wpList_load_row rfl 26 _ rfl bo rfl 26 #[.int .u8 1, (.slice an j cn), .slice none 0 0] (0, 0) _ HR.out Try.underlying26 rfl (by kernel_rfl) ?_) | (refine wpList_putrow rfl rfl w.heap.size rfl #[.int .u8 1, (.slice an j cn), .slice none 0 0] rfl HT.out (by kernel_rfl) rfl (by simp [Value.oneCell']) ?_; intro W5 hg5 hr5; have HG5 := Lib.hid hg5; have HR5 := Lib.hid hr5; clear hg5 hr5))
        refine bodyPost_ret (results_ctt rfl _ _ w.heap.size 26 #[.int .u8 1, (.slice an j cn), .slice none 0 0] (0, 0) _ _ _ rfl rfl rfl HR5.out Try.underlying26 rfl (by kernel_rfl)) rfl ?_
        have ho5 := Own.ch HO.out (Ch.ofSome (S := fun k => k = w.heap.size) HG5.out rfl) (fun h0 g e h => by
          have := (Own.inn HO.out (g := g) ⟨h0, e⟩).1
          have := HBB.out
          omega)
        have hT2 : T = l.drop 2 := by
          rw [HTT.out]
          exact List.take_of_length_le (by rw [List.length_drop, HNN.out]; have := HNM.out; have := HMM.out; omega)
        rw [HD.out, if_neg (by rw [hall]; omega), if_neg (by rw [HNN.out, ← HMM.out]; have := HNM.out; omega)]
        refine ⟨_, _, _, none, 0, 0, rfl, ?_, Own.nil _ _ _ _ _, grownBy_old HG.out HG5.out (Nat.le_refl _)⟩
        rw [List.take_of_length_le (by have := HTL.out; omega), hT2] at ho5
        exact Own.mono ho5 (by have := HBB.out; omega)
      · have HNM := Lib.hid hcmp
        clear hcmp
        have hnd : ((n : Int) != 2 + (M : Int)) = true := by rw [bne_iff_ne]; have := HNM.out; omega
        have hmn : decide (2 + (M : Int) < (n : Int)) = true := decide_eq_true (by have := HNM.out; omega)
        have hif : (if 2 + (M : Int) < (n : Int) then 2 + (M : Int) else (n : Int)) = (2 + (M : Int)) := by have := HNM.out; split <;> omega
        go_wp2_with fail
        refine (fail_n (2 + (M : Int)) wr).mono ?_
        rintro e wf ⟨rfl, gf⟩
        have HTf := Lib.hid (HT.out.grown gf)
        have HGf := Lib.hid (grownBy_trans HG.out gf)
        clear gf
        go_wp2_with (refine wpList_putrow rfl rfl w.heap.size rfl #[.int .u8 0, .slice none 0 0, .slice none 0 0] rfl HTf.out (by kernel_rfl) rfl (by simp [Value.oneCell']) ?_; intro W5 hg5 hr5; have HG5 := Lib.hid hg5; have HR5 := Lib.hid hr5; clear hg5 hr5)
        refine bodyPost_ret (results_ctt rfl _ _ w.heap.size 26 #[.int .u8 0, .slice none 0 0, .slice none 0 0] (0, 0) _ _ _ rfl rfl rfl HR5.out Try.underlying26 rfl (by kernel_rfl)) rfl ?_
        rw [HD.out, if_neg (by rw [hall]; omega), if_pos (by rw [HNN.out, ← HMM.out]; have := HNM.out; omega), HNN.out, ← HMM.out, show min n (2 + M) = 2 + M from by have := HNM.out; omega]
        exact repP_err (2 + M) _ (by omega) (grownBy_old HGf.out HG5.out (Nat.le_refl _))
end Go.Proofs.Ytkdmebcfedehiaa
/- wire.Reply of all bytes; strongroomkit.SameInts, SameReply. -/
namespace Go.Proofs.Ytkdmebcfedehiaa
open Go.RowKit

theorem reply_n (a : Option Addr) (n c : Nat) (l : List UInt8) (w : World) (hl : BLies w a l) (hn : l.length = n) (hc : n ≤ c) (hnm : n ≤ 140737488355328) :
    Calls Try.prog 10 #[.slice a n c] w fun e w' => RepP w (decR l) e w' := by
  rcases Nat.eq_zero_or_pos n with h0 | h0
  · exact reply_empty a n c l w hl hn hnm h0
  obtain ⟨b, off, ha, _⟩ := bytes_cells hl (by omega)
  by_cases h1 : (l.getD 0 0).toNat = 1
  · have hK : (1 : Int) = ((l.getD 0 0).toNat : Int) := by omega
    by_cases h2 : n < 2
    · exact reply_1a a n c l w hl hn hnm hc b off ha hK h0 h2
    exact reply_1 a n c l w hl hn hnm hc b off ha hK h0 (by omega)
  by_cases h5 : (l.getD 0 0).toNat = 5
  · have hK : (5 : Int) = ((l.getD 0 0).toNat : Int) := by omega
    by_cases h2 : n < 5
    · exact reply_5a a n c l w hl hn hnm hc b off ha hK h0 h2
    by_cases x1 : getN l 1 4 < 1
    · exact reply_5b a n c l w hl hn hnm hc b off ha hK h0 (by omega) x1
    by_cases x2 : 131072 < getN l 1 4
    · exact reply_5c a n c l w hl hn hnm hc b off ha hK h0 (by omega) x2
    rcases Nat.lt_trichotomy n (5 + getN l 1 4) with h | h | h
    · exact reply_5d1 a n c l w hl hn hnm hc b off ha hK h0 (by omega) ⟨by omega, by omega⟩ h
    · exact reply_5e a n c l w hl hn hnm hc b off ha hK h0 (by omega) ⟨by omega, by omega⟩ h
    · exact reply_5d2 a n c l w hl hn hnm hc b off ha hK h0 (by omega) ⟨by omega, by omega⟩ h
  by_cases hk : (l.getD 0 0).toNat < 1 ∨ 7 < (l.getD 0 0).toNat
  · exact reply_kind a n c l w hl hn hnm _ b off ha rfl h0 (by omega)
  · exact reply_plain a n c l w hl hn hnm _ b off ha rfl h0 (by omega) (by omega) (by omega) (by omega)

theorem takeI_step {l m : List Int} {k : Nat} (hl : k < l.length) (hm : k < m.length) (h : l.take k = m.take k) (e : l[k] = m[k]) : l.take (k + 1) = m.take (k + 1) := by
  rw [List.take_succ_eq_append_getElem hl, List.take_succ_eq_append_getElem hm, h, e]

set_option maxHeartbeats 1000000 in
theorem sameInts_any (a a' : Option Addr) (c c' : Nat) (la lb : List Int) (w : World) (ha : Lies w a (IV la)) (hb : Lies w a' (IV lb)) (hn : la.length ≤ maxLen) :
    Calls Try.prog 18 #[.slice a la.length c, .slice a' lb.length c'] w fun e w' => e = .returned (.bool (decide (la = lb))) ∧ ∃ n, w' = w.drewN n := by
  unfold maxLen at hn
  have HA : Hid (Lies w a (IV la)) := ha
  have HB : Hid (Lies w a' (IV lb)) := hb
  clear ha hb
  by_cases hl : la.length = lb.length
  · have hlb : ((la.length : Int) != (lb.length : Int)) = false := by simp [hl]
    have HL : Hid (la.length = lb.length) := hl
    clear hl
    go_enter Try.func18, Try.ntmps18
    go_wp2
    go_loopw [5] (fun i wr => ∃ k n : Nat, k ≤ la.length ∧ i = .int .i64 k ∧ wr = w.drewN n ∧ la.take k = lb.take k) (fun i _ => la.length - (intOf i).toNat)
    case atStart => exact ⟨0, 0, by omega, rfl, rfl, by simp⟩
    case round =>
      obtain ⟨k, n, hk, rfl, rfl, ht⟩ := hrel
      have HT : Hid (la.take k = lb.take k) := ht
      clear ht
      by_cases hlt : k < la.length
      · have hlt2 : k < lb.length := by have := HL.out; omega
        obtain ⟨b, off, rfl, hc⟩ := HA.out k (by simpa [IV] using hlt)
        obtain ⟨b', off', rfl, hc'⟩ := HB.out k (by simpa [IV] using hlt2)
        rw [show (IV la)[k]'(by simpa [IV] using hlt) = .int .i64 la[k] from by simp [IV]] at hc
        rw [show (IV lb)[k]'(by simpa [IV] using hlt2) = .int .i64 lb[k] from by simp [IV]] at hc'
        by_cases he : la[k] = lb[k]
        · have hbn : (la[k] != lb[k]) = false := by simp [he]
          go_wp2
          go_quiet (fail)
          go_wp2
          go_roundw
          case rel => exact ⟨k + 1, n + nq, by omega, by go_num, by simp, takeI_step hlt hlt2 HT.out he⟩
          case measure => simp [intOf]; omega
        · have hbn : (la[k] != lb[k]) = true := by rw [bne_iff_ne]; exact he
          go_wp2
          go_quiet (fail)
          go_wp2
          go_ret
          exact ⟨ret_bool (by rw [eq_comm, decide_eq_false_iff_not]; rintro rfl; exact he rfl), n + nq, by simp⟩
      · go_wp2
        go_ret
        exact ⟨ret_bool (by have h1 := HT.out; have h2 := HL.out; rw [eq_comm, decide_eq_true_iff]; rwa [List.take_of_length_le (by omega), List.take_of_length_le (by omega)] at h1), _, rfl⟩
  · have hlb : ((la.length : Int) != (lb.length : Int)) = true := by rw [bne_iff_ne]; omega
    go_enter Try.func18, Try.ntmps18
    go_wp2
    go_ret
    exact ⟨ret_bool (by rw [eq_comm, decide_eq_false_iff_not]; rintro rfl; exact hl rfl), 0, rfl⟩
theorem sameInts_yes (a a' : Option Addr) (c c' n n' : Nat) (la : List Int) (w : World) (ha : Lies w a (IV la)) (hb : Lies w a' (IV la)) (hla : la.length = n) (hlb : la.length = n') (hn : n ≤ maxLen) :
    Calls Try.prog 18 #[.slice a n c, .slice a' n' c'] w fun e w' => e = .returned (.bool true) ∧ w.grownBy w' none := by
  subst hla; subst hlb
  refine (sameInts_any a a' c c' la la w ha hb hn).mono fun e w' ⟨h1, q, h2⟩ => ⟨by rw [h1]; simp, h2 ▸ grownBy_drewN _ _ _⟩
theorem same_yes_g (a a' : Option Addr) (c c' n n' : Nat) (la : List UInt8) (w : World) (ha : BLies w a la) (hb : BLies w a' la) (hla : la.length = n) (hlb : la.length = n') (hn : n ≤ maxLen) :
    Calls Try.prog 12 #[.slice a n c, .slice a' n' c'] w fun e w' => e = .returned (.bool true) ∧ w.grownBy w' none :=
  (same_yes a a' c c' n n' la w ha hb hla hlb hn).mono fun e w' ⟨h1, q, h2⟩ => ⟨h1, h2 ▸ grownBy_drewN _ _ _⟩

set_option maxRecDepth 100000 in
set_option maxHeartbeats 1000000 in
theorem sameReply_yes (K : Int) (an an' ab ab' : Option Addr) (n n' cn cn' m m' cb cb' : Nat) (ns : List Int) (bs : List UInt8) (w : World) (h1 : Lies w an (IV ns)) (h2 : Lies w an' (IV ns)) (h3 : BLies w ab bs) (h4 : BLies w ab' bs)
    (e1 : ns.length = n) (e2 : ns.length = n') (e3 : bs.length = m) (e4 : bs.length = m') (hn : n ≤ maxLen) (hm : m ≤ maxLen) :
    Calls Try.prog 11 #[.agg #[.int .u8 K, .slice an n cn, .slice ab m cb], .agg #[.int .u8 K, .slice an' n' cn', .slice ab' m' cb']] w fun e w' => e = .returned (.bool true) ∧ w.grownBy w' none := by
  have HI := Lib.hid (fun W (hW : w.grownBy W none) => sameInts_yes an an' cn cn' n n' ns W (h1.grown hW) (h2.grown hW) e1 e2 hn)
  have HB := Lib.hid (fun W (hW : w.grownBy W none) => same_yes_g ab ab' cb cb' m m' bs W (h3.grown hW) (h4.grown hW) e3 e4 hm)
  clear h1 h2 h3 h4 e1 e2 e3 e4 hn hm
  go_enter Try.func11, Try.ntmps11
  go_upto_region 1 with (first
    | (refine wpList_boxed rfl rfl #[.int .u8 K, .slice an n cn, .slice ab m cb] rfl ?_; intro w1 hs g hr; have G1 := Lib.hid g; have R1 := Lib.hid hr; clear hs g hr)
    | (refine wpList_boxed rfl rfl #[.int .u8 K, .slice an' n' cn', .slice ab' m' cb'] rfl ?_; intro w2 hs g hr; have G2 := Lib.hid (grownBy_trans G1.out g); have R2 := Lib.hid (R1.out.grown g); have R3 := Lib.hid hr; clear hs g hr))
  obtain ⟨b1, hb1⟩ : ∃ b1, b1 = w.heap.size := ⟨_, rfl⟩
  obtain ⟨b2, hb2⟩ : ∃ b2, b2 = w1.heap.size := ⟨_, rfl⟩
  rw [← hb1] at R2 ⊢
  rw [← hb2] at R3 ⊢
  have HB1 := Lib.hid hb1
  clear hb1 hb2 R1
  have c0 := Row.cell R2.out 0
  have c1 := Row.cell R2.out 1
  have c2 := Row.cell R2.out 2
  have d0 := Row.cell R3.out 0
  have d1 := Row.cell R3.out 1
  have d2 := Row.cell R3.out 2
  simp at c0 c1 c2 d0 d1 d2
  go_wp2_with fail
  refine (HI.out w2 G2.out).mono ?_
  rintro e w3 ⟨rfl, g⟩
  have G3 := Lib.hid (grownBy_trans G2.out g)
  have c2' := Row.cell (R2.out.grown g) 2
  have d2' := Row.cell (R3.out.grown g) 2
  simp at c2' d2'
  clear c0 c1 c2 d0 d1 d2 g
  go_wp2_with fail
  refine (HB.out w3 G3.out).mono ?_
  rintro e w4 ⟨rfl, g⟩
  have G4 := Lib.hid (grownBy_trans G3.out g)
  clear c2' d2' g
  go_wp2_with fail
  go_ret
  exact ⟨rfl, G4.out⟩
end Go.Proofs.Ytkdmebcfedehiaa
/- As XRegX, where operations that read nothing stand behind the last one that writes. -/
namespace Go.Proofs.Ytkdmebcfedehiaa
open Go.RowKit
section
variable {P : Program} {ops : Array Oper} {Q : Exit → Act → World → Prop} {md : Region.Mode} {L : Nat}

/-- i stands ahead of o, over so many steps -/
def aheadD (md : Region.Mode) (ops : Array Oper) (i : Nat) : Nat → Oper → Bool
  | 0, o => o.after.any (fun e => Region.binds md e && e.on == i)
  | d + 1, o => o.after.any (fun e => Region.binds md e && (e.on == i || (match ops[e.on]? with
    | some o' => aheadD md ops i d o'
    | none => false)))
def wpY (P : Program) (md : Region.Mode) (ops : Array Oper) (Q : Exit → Act → World → Prop) (L : Nat) : Nat → (World → Prop) → Array Bool → Act → Prop
  | 0, _, _, _ => False
  | n + 1, S, listed, a => Region.ready md ops listed ≠ [] ∧
    ∀ i ∈ Region.ready md ops listed, ∀ w, S w → wpOp P ops Q i (fun a' w' => if i = L then wpAny P md ops Q n (listed.setIfInBounds i true) a' w' else
      ∃ S' : World → Prop, S' w' ∧ (∀ w, S' w → S w) ∧ Clo S' ∧ wpY P md ops Q L n S' (listed.setIfInBounds i true) a') a w

end
end Go.Proofs.Ytkdmebcfedehiaa
