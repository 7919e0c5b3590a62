/- Helpers and contracts of the proofs over this seat: WireRefR, WireRefP, WireTellsL, WireRefX4. Each states what a function of the program answers, or is plain Lean; its conditions stand in each statement. -/
import Derived.Test.YtkdmebcfedehiaaPtAA
import Derived.Test.YtkdmebcfedehiaaPtAB
import Derived.Test.YtkdmebcfedehiaaPtAC
import Derived.Test.YtkdmebcfedehiaaPtAD
import Derived.Test.YtkdmebcfedehiaaPtAE
import Derived.Test.YtkdmebcfedehiaaPtAG
set_option linter.unusedVariables false
/- The document's MayReply and PutReply (strongroomref20). Printed by gens/wireref_r.py. -/
namespace Go.Proofs.Ytkdmebcfedehiaa
open Go.RowKit

set_option maxRecDepth 100000 in
set_option maxHeartbeats 4000000 in
theorem refMayR_1 (K : Int) (k n cn m cb : Nat) (an ab : Option Addr) (ns : List Int) (bs : List UInt8) (w : World) (hK : K = (k : Int)) (hns : Lies w an (IV ns)) (hn : ns.length = n) (hm : bs.length = m) (hnm : n ≤ maxLen) (hmm : m ≤ maxLen) (h1 : k = 1) :
    Calls Try.prog 64 #[.agg #[.int .u8 K, .slice an n cn, .slice ab m cb]] w fun e w' => e = .returned (.bool (mayR ⟨k, ns, bs⟩)) ∧ w.grownBy w' none := by
  unfold maxLen at hnm hmm
  have HNS := Lib.hid hns
  have HN := Lib.hid hn
  have HM := Lib.hid hm
  clear hns hn hm
  · subst h1
    have hK1 : K = 1 := hK
    subst hK1
    clear hK
    by_cases hm0 : 0 < m
    · rw [mayR_1b ns (by have := HM.out; omega)]
      have hd : ((m : Int) != 0) = true := by rw [bne_iff_ne]; omega
      go_enter Try.func64, Try.ntmps64
      go_upto_region 1 with (refine wpList_boxed rfl rfl #[.int .u8 1, .slice an n cn, .slice ab m cb] rfl ?_; intro wb hsb hgb hrb; have c0 := Row.cell hrb 0; have c1 := Row.cell hrb 1; have c2 := Row.cell hrb 2; simp at c0 c1 c2; have HG := Lib.hid hgb; clear hsb hgb hrb)
      go_wp2_with fail
      go_ret
      exact ⟨rfl, HG.out⟩
    · obtain rfl : m = 0 := by omega
      have hb := List.eq_nil_of_length_eq_zero HM.out
      subst hb
      rw [mayR_1]
      clear hm0
      by_cases hbig : 255 < n
      · have hf : incr (-1) ns = false := by
          rw [← Bool.not_eq_true]
          intro h
          have := incr_len ns (-1) h (by omega)
          have := HN.out
          omega
        rw [hf]
        have hd : decide ((255 : Int) < (n : Int)) = true := decide_eq_true (by omega)
        have hd2 : decide (255 < n) = true := decide_eq_true hbig
        go_enter Try.func64, Try.ntmps64
        go_upto_region 1 with (refine wpList_boxed rfl rfl #[.int .u8 1, .slice an n cn, .slice ab 0 cb] rfl ?_; intro wb hsb hgb hrb; have c0 := Row.cell hrb 0; have c1 := Row.cell hrb 1; have c2 := Row.cell hrb 2; simp at c0 c1 c2; have HG := Lib.hid hgb; clear hsb hgb hrb)
        go_wp2_with fail
        go_ret
        exact ⟨rfl, HG.out⟩
      have hd : decide ((255 : Int) < (n : Int)) = false := decide_eq_false (by omega)
      have hd2 : decide (255 < n) = false := decide_eq_false hbig
      go_enter Try.func64, Try.ntmps64
      go_upto_region 1 with (refine wpList_boxed rfl rfl #[.int .u8 1, .slice an n cn, .slice ab 0 cb] rfl ?_; intro wb hsb hgb hrb; have c0 := Row.cell hrb 0; have c1 := Row.cell hrb 1; have c2 := Row.cell hrb 2; simp at c0 c1 c2; have HG := Lib.hid hgb; clear hsb hgb hrb)
      go_wp2_with fail
      
      go_loopw [3] (fun vi wr => ∃ j q : Nat, j ≤ n ∧ vi = .int .i64 (j : Int) ∧ wr = wb.drewN q ∧ ∀ i, i < j → okI ns i = true) (fun vi _ => n - (intOf vi).toNat)
      case atStart => exact ⟨0, 0, by omega, rfl, rfl, fun i h => absurd h (by omega)⟩
      case round =>
        obtain ⟨j, q, hj, rfl, rfl, hok⟩ := hrel
        have HOK := Lib.hid hok
        clear hok
        by_cases hlt : j < n
        · obtain ⟨b, off, rfl, hc⟩ := ints_cells (HNS.out.grown HG.out) (by have := HN.out; omega)
          obtain ⟨x, hx⟩ : ∃ x, x = ns.getD j 0 := ⟨_, rfl⟩
          obtain ⟨y, hy⟩ : ∃ y, y = ns.getD (j - 1) 0 := ⟨_, rfl⟩
          have hcj := hc j (by have := HN.out; omega)
          have hcp := hc (j - 1) (by have := HN.out; omega)
          rw [← hx] at hcj
          rw [← hy] at hcp
          have hoj : okI ns j = (decide (0 ≤ x) && decide (x < 255) && (decide (j = 0) || decide (y < x))) := by rw [hx, hy]; rfl
          have HOJ := Lib.hid hoj
          clear hc hoj hx hy
          obtain ⟨g0, hg0⟩ : ∃ g0, g0 = (decide (0 ≤ x) && decide (x < 255)) := ⟨_, rfl⟩
          have HRN := Lib.hid (fun W => (refNum_n x W).mono (R' := fun e w' => e = .returned (.bool g0) ∧ W = w') (fun e w' h => by rw [hg0]; exact h))
          have HG0 := Lib.hid hg0
          clear hg0
          cases g0 with
          | true =>
            by_cases hj0 : j = 0
            · subst hj0
              simp only [Nat.add_zero] at hcj
              go_wp2_with fail
              go_quiet ((go_at_call 70; exact quietS2 (HRN.out _)))
              go_wp2_with fail
              go_roundw
              case rel =>
                refine ⟨1, _, by omega, by first | rfl | go_num, rfl, fun i hi => ?_⟩
                obtain rfl : i = 0 := by omega
                rw [HOJ.out, ← HG0.out]
                rfl
              case measure => simp [intOf]; omega
            · have hj1 : decide (0 < j) = true := decide_eq_true (by omega)
              have hj2 : decide ((0 : Int) < (j : Int)) = true := decide_eq_true (by omega)
              have hjm : ((j - 1 : Nat) : Int) = (j : Int) - 1 := by omega
              by_cases hxy : y < x
              · have hd3 : decide (x ≤ y) = false := decide_eq_false (by omega)
                go_wp2_with fail
                go_quiet ((go_at_call 70; exact quietS2 (HRN.out _)))
                go_wp2_with fail
                go_roundw
                case rel =>
                  refine ⟨j + 1, _, by omega, by first | rfl | go_num, rfl, fun i hi => ?_⟩
                  by_cases e : i = j
                  · subst e
                    rw [HOJ.out, ← HG0.out, decide_eq_true hxy]
                    simp
                  · exact HOK.out i (by omega)
                case measure => simp [intOf]; omega
              · have hd3 : decide (x ≤ y) = true := decide_eq_true (by omega)
                go_wp2_with fail
                go_quiet ((go_at_call 70; exact quietS2 (HRN.out _)))
                go_wp2_with fail
                go_ret
                refine ⟨ret_bool ?_, by first | exact grownBy_dr HG.out _ | exact grownBy_dr (grownBy_dr HG.out _) _⟩
                rw [eq_comm, ← Bool.not_eq_true, incr_okI]
                intro h
                have := h j (by have := HN.out; omega)
                rw [HOJ.out, decide_eq_false (show ¬ y < x by omega), decide_eq_false hj0] at this
                simp at this
          | false =>
            go_wp2_with fail
            go_quiet ((go_at_call 70; exact quietS2 (HRN.out _)))
            go_wp2_with fail
            go_ret
            refine ⟨ret_bool ?_, by first | exact grownBy_dr HG.out _ | exact grownBy_dr (grownBy_dr HG.out _) _⟩
            rw [eq_comm, ← Bool.not_eq_true, incr_okI]
            intro h
            have := h j (by have := HN.out; omega)
            rw [HOJ.out, ← HG0.out] at this
            simp at this
        · go_wp2_with fail
          go_ret
          refine ⟨ret_bool ?_, by first | exact grownBy_dr HG.out _ | exact grownBy_dr (grownBy_dr HG.out _) _⟩
          rw [eq_comm, incr_okI]
          intro i hi
          exact HOK.out i (by have := HN.out; omega)
set_option maxRecDepth 100000 in
set_option maxHeartbeats 4000000 in
theorem refMayR_lo (K : Int) (k n cn m cb : Nat) (an ab : Option Addr) (ns : List Int) (bs : List UInt8) (w : World) (hK : K = (k : Int)) (hns : Lies w an (IV ns)) (hn : ns.length = n) (hm : bs.length = m) (hnm : n ≤ maxLen) (hmm : m ≤ maxLen) (h1 : k ≠ 1) (hlo : k < 1 ∨ 7 < k) :
    Calls Try.prog 64 #[.agg #[.int .u8 K, .slice an n cn, .slice ab m cb]] w fun e w' => e = .returned (.bool (mayR ⟨k, ns, bs⟩)) ∧ w.grownBy w' none := by
  unfold maxLen at hnm hmm
  have HNS := Lib.hid hns
  have HN := Lib.hid hn
  have HM := Lib.hid hm
  clear hns hn hm
  · have hb1 : (K == 1) = false := by rw [beq_eq_false_iff_ne]; omega
    have hb2 : (K != 1) = true := by rw [bne_iff_ne]; omega
    · have hf : mayR ⟨k, ns, bs⟩ = false := by
        unfold mayR
        simp only
        split
        · rfl
        rw [if_neg (show ¬ k = 5 by omega)]
        rcases hlo with h | h
        · rw [decide_eq_false (show ¬ 1 ≤ k by omega)]; rfl
        · rw [decide_eq_false (show ¬ k ≤ 7 by omega)]; simp
      rw [hf]
      rcases hlo with h | h
      · have e1 : decide (K < 1) = true := decide_eq_true (by omega)
        clear hK h
        go_enter Try.func64, Try.ntmps64
        go_upto_region 1 with (refine wpList_boxed rfl rfl #[.int .u8 K, .slice an n cn, .slice ab m cb] rfl ?_; intro wb hsb hgb hrb; have c0 := Row.cell hrb 0; have c1 := Row.cell hrb 1; have c2 := Row.cell hrb 2; simp at c0 c1 c2; have HG := Lib.hid hgb; clear hsb hgb hrb)
        go_wp2_with fail
        go_ret
        exact ⟨rfl, HG.out⟩
      · have e1 : decide (K < 1) = false := decide_eq_false (by omega)
        have e2 : decide (7 < K) = true := decide_eq_true (by omega)
        clear hK h
        go_enter Try.func64, Try.ntmps64
        go_upto_region 1 with (refine wpList_boxed rfl rfl #[.int .u8 K, .slice an n cn, .slice ab m cb] rfl ?_; intro wb hsb hgb hrb; have c0 := Row.cell hrb 0; have c1 := Row.cell hrb 1; have c2 := Row.cell hrb 2; simp at c0 c1 c2; have HG := Lib.hid hgb; clear hsb hgb hrb)
        go_wp2_with fail
        go_ret
        exact ⟨rfl, HG.out⟩
set_option maxRecDepth 100000 in
set_option maxHeartbeats 4000000 in
theorem refMayR_k (K : Int) (k n cn m cb : Nat) (an ab : Option Addr) (ns : List Int) (bs : List UInt8) (w : World) (hK : K = (k : Int)) (hns : Lies w an (IV ns)) (hn : ns.length = n) (hm : bs.length = m) (hnm : n ≤ maxLen) (hmm : m ≤ maxLen) (h1 : k ≠ 1) (hlo : ¬ (k < 1 ∨ 7 < k)) :
    Calls Try.prog 64 #[.agg #[.int .u8 K, .slice an n cn, .slice ab m cb]] w fun e w' => e = .returned (.bool (mayR ⟨k, ns, bs⟩)) ∧ w.grownBy w' none := by
  unfold maxLen at hnm hmm
  have HNS := Lib.hid hns
  have HN := Lib.hid hn
  have HM := Lib.hid hm
  clear hns hn hm
  · have hb1 : (K == 1) = false := by rw [beq_eq_false_iff_ne]; omega
    have hb2 : (K != 1) = true := by rw [bne_iff_ne]; omega
    have e1 : decide (K < 1) = false := decide_eq_false (by omega)
    have e2 : decide (7 < K) = false := decide_eq_false (by omega)
    by_cases hn0 : 0 < n
    · rw [mayR_n h1 (by have := HN.out; omega)]
      have hd : ((n : Int) != 0) = true := by rw [bne_iff_ne]; omega
      clear hK
      go_enter Try.func64, Try.ntmps64
      go_upto_region 1 with (refine wpList_boxed rfl rfl #[.int .u8 K, .slice an n cn, .slice ab m cb] rfl ?_; intro wb hsb hgb hrb; have c0 := Row.cell hrb 0; have c1 := Row.cell hrb 1; have c2 := Row.cell hrb 2; simp at c0 c1 c2; have HG := Lib.hid hgb; clear hsb hgb hrb)
      go_wp2_with fail
      go_ret
      exact ⟨rfl, HG.out⟩
    · obtain rfl : n = 0 := by omega
      have hb := List.eq_nil_of_length_eq_zero HN.out
      subst hb
      clear hn0
      by_cases h5 : k = 5
      · subst h5
        have hK5 : K = 5 := hK
        subst hK5
        clear hK hb1 hb2 e1 e2
        rw [mayR_5, HM.out]
        have hdm : decide (1 ≤ (m : Int)) = decide (1 ≤ m) := by congr 1; exact propext ⟨fun h => by omega, fun h => by omega⟩
        have hdm2 : decide ((m : Int) ≤ 131072) = decide (m ≤ 131072) := by congr 1; exact propext ⟨fun h => by omega, fun h => by omega⟩
        by_cases hm1 : 1 ≤ m
        · have e1 : decide (1 ≤ m) = true := decide_eq_true hm1
          rw [e1] at hdm
          rw [e1, Bool.true_and]
          by_cases hm2 : m ≤ 131072
          · have e2 : decide (m ≤ 131072) = true := decide_eq_true hm2
            rw [e2] at hdm2
            rw [e2]
            go_enter Try.func64, Try.ntmps64
            go_upto_region 1 with (refine wpList_boxed rfl rfl #[.int .u8 5, .slice an 0 cn, .slice ab m cb] rfl ?_; intro wb hsb hgb hrb; have c0 := Row.cell hrb 0; have c1 := Row.cell hrb 1; have c2 := Row.cell hrb 2; simp at c0 c1 c2; have HG := Lib.hid hgb; clear hsb hgb hrb)
            go_wp2_with fail
            go_ret
            exact ⟨rfl, HG.out⟩
          · have e2 : decide (m ≤ 131072) = false := decide_eq_false hm2
            rw [e2] at hdm2
            rw [e2]
            go_enter Try.func64, Try.ntmps64
            go_upto_region 1 with (refine wpList_boxed rfl rfl #[.int .u8 5, .slice an 0 cn, .slice ab m cb] rfl ?_; intro wb hsb hgb hrb; have c0 := Row.cell hrb 0; have c1 := Row.cell hrb 1; have c2 := Row.cell hrb 2; simp at c0 c1 c2; have HG := Lib.hid hgb; clear hsb hgb hrb)
            go_wp2_with fail
            go_ret
            exact ⟨rfl, HG.out⟩
        · have e1 : decide (1 ≤ m) = false := decide_eq_false hm1
          rw [e1] at hdm
          rw [e1, Bool.false_and]
          go_enter Try.func64, Try.ntmps64
          go_upto_region 1 with (refine wpList_boxed rfl rfl #[.int .u8 5, .slice an 0 cn, .slice ab m cb] rfl ?_; intro wb hsb hgb hrb; have c0 := Row.cell hrb 0; have c1 := Row.cell hrb 1; have c2 := Row.cell hrb 2; simp at c0 c1 c2; have HG := Lib.hid hgb; clear hsb hgb hrb)
          go_wp2_with fail
          go_ret
          exact ⟨rfl, HG.out⟩
      · have hc1 : (K == 5) = false := by rw [beq_eq_false_iff_ne]; omega
        have hc2 : (K != 5) = true := by rw [bne_iff_ne]; omega
        clear hK
        by_cases hm0 : 0 < m
        · rw [mayR_b h1 h5 (by have := HM.out; omega)]
          have hd : ((m : Int) != 0) = true := by rw [bne_iff_ne]; omega
          go_enter Try.func64, Try.ntmps64
          go_upto_region 1 with (refine wpList_boxed rfl rfl #[.int .u8 K, .slice an 0 cn, .slice ab m cb] rfl ?_; intro wb hsb hgb hrb; have c0 := Row.cell hrb 0; have c1 := Row.cell hrb 1; have c2 := Row.cell hrb 2; simp at c0 c1 c2; have HG := Lib.hid hgb; clear hsb hgb hrb)
          go_wp2_with fail
          go_ret
          exact ⟨rfl, HG.out⟩
        · obtain rfl : m = 0 := by omega
          have hb := List.eq_nil_of_length_eq_zero HM.out
          subst hb
          rw [mayR_k h1 h5]
          clear hm0
          rw [decide_eq_true (show 1 ≤ k by omega), decide_eq_true (show k ≤ 7 by omega)]
          show Calls _ _ _ _ fun e w' => e = .returned (.bool true) ∧ w.grownBy w' none
          go_enter Try.func64, Try.ntmps64
          go_upto_region 1 with (refine wpList_boxed rfl rfl #[.int .u8 K, .slice an 0 cn, .slice ab 0 cb] rfl ?_; intro wb hsb hgb hrb; have c0 := Row.cell hrb 0; have c1 := Row.cell hrb 1; have c2 := Row.cell hrb 2; simp at c0 c1 c2; have HG := Lib.hid hgb; clear hsb hgb hrb)
          go_wp2_with fail
          go_rounds 1
          go_ret
          exact ⟨rfl, HG.out⟩
theorem refMayR_n (K : Int) (k n cn m cb : Nat) (an ab : Option Addr) (ns : List Int) (bs : List UInt8) (w : World) (hK : K = (k : Int)) (hns : Lies w an (IV ns)) (hn : ns.length = n) (hm : bs.length = m) (hnm : n ≤ maxLen) (hmm : m ≤ maxLen) :
    Calls Try.prog 64 #[.agg #[.int .u8 K, .slice an n cn, .slice ab m cb]] w fun e w' => e = .returned (.bool (mayR ⟨k, ns, bs⟩)) ∧ w.grownBy w' none := by
  by_cases h1 : k = 1
  · exact refMayR_1 K k n cn m cb an ab ns bs w hK hns hn hm hnm hmm h1
  by_cases hlo : k < 1 ∨ 7 < k
  · exact refMayR_lo K k n cn m cb an ab ns bs w hK hns hn hm hnm hmm h1 hlo
  · exact refMayR_k K k n cn m cb an ab ns bs w hK hns hn hm hnm hmm h1 hlo
end Go.Proofs.Ytkdmebcfedehiaa
/- The document's PutReply (strongroomref20). Printed by gens/wireref_p.py. -/
namespace Go.Proofs.Ytkdmebcfedehiaa
open Go.RowKit

set_option maxRecDepth 100000 in
set_option maxHeartbeats 4000000 in
theorem refPutR_no (K : Int) (k n cn m cb : Nat) (an ab : Option Addr) (ns : List Int) (bs : List UInt8) (w : World) (hK : K = (k : Int)) (hk : k < 256) (hns : Lies w an (IV ns)) (hbs : BLies w ab bs) (hn : ns.length = n) (hm : bs.length = m) (hnm : n ≤ maxLen) (hmm : m ≤ maxLen) (hmay : ¬ mayR ⟨k, ns, bs⟩ = true) :
    Calls Try.prog 38 #[.agg #[.int .u8 K, .slice an n cn, .slice ab m cb]] w fun e w' => ∃ a' n' c', e = .returned (.tuple #[.slice a' n' c', .int .i64 (putE ⟨k, ns, bs⟩)]) ∧ BOwn w' w.heap.size a' n' c' (putL ⟨k, ns, bs⟩) ∧ w.grownBy w' none := by
  have HNS := Lib.hid hns
  have HBS := Lib.hid hbs
  have HN := Lib.hid hn
  have HM := Lib.hid hm
  have hmt := fun W (hW : w.grownBy W none) => refMayR_n K k n cn m cb an ab ns bs W hK (hns.grown hW) hn hm hnm hmm
  have HMT := Lib.hid hmt
  clear hns hbs hn hm hmt
  have hL : putL ⟨k, ns, bs⟩ = [] := if_neg hmay
  have hE : putE ⟨k, ns, bs⟩ = 201 := if_neg hmay
  rw [hL, hE]
  rw [Bool.not_eq_true] at hmay
  rw [hmay] at HMT
  clear hL hE hmay hK
  go_enter Try.func38, Try.ntmps38
  go_upto_region 1 with (refine wpList_boxed rfl rfl #[.int .u8 K, .slice an n cn, .slice ab m cb] rfl ?_; intro wb hsb hgb hrb; have HB := Lib.hid hrb; have HG := Lib.hid hgb; clear hsb hgb hrb)
  go_wp2_with (refine wpList_load_row rfl 26 _ rfl w.heap.size rfl 26 #[.int .u8 K, .slice an n cn, .slice ab m cb] (0, 0) _ HB.out Try.underlying26 rfl (by kernel_rfl) ?_)
  refine (HMT.out wb HG.out).mono ?_
  rintro e w1 ⟨rfl, hg1⟩
  have HG1 := Lib.hid hg1
  have HB1 := Lib.hid (HB.out.grown hg1)
  clear hg1
  go_wp2_with fail
  go_ret2
  exact ⟨_, _, _, rfl, Own.nil _ _ _ _ _, grownBy_trans HG.out HG1.out⟩
set_option maxRecDepth 100000 in
set_option maxHeartbeats 4000000 in
theorem refPutR_1 (K : Int) (k n cn m cb : Nat) (an ab : Option Addr) (ns : List Int) (bs : List UInt8) (w : World) (hK : K = (k : Int)) (hk : k < 256) (hns : Lies w an (IV ns)) (hbs : BLies w ab bs) (hn : ns.length = n) (hm : bs.length = m) (hnm : n ≤ maxLen) (hmm : m ≤ maxLen) (hmay : mayR ⟨k, ns, bs⟩ = true) (h1 : k = 1) :
    Calls Try.prog 38 #[.agg #[.int .u8 K, .slice an n cn, .slice ab m cb]] w fun e w' => ∃ a' n' c', e = .returned (.tuple #[.slice a' n' c', .int .i64 (putE ⟨k, ns, bs⟩)]) ∧ BOwn w' w.heap.size a' n' c' (putL ⟨k, ns, bs⟩) ∧ w.grownBy w' none := by
  have HNS := Lib.hid hns
  have HBS := Lib.hid hbs
  have HN := Lib.hid hn
  have HM := Lib.hid hm
  have hmt := fun W (hW : w.grownBy W none) => refMayR_n K k n cn m cb an ab ns bs W hK (hns.grown hW) hn hm hnm hmm
  have HMT := Lib.hid hmt
  clear hns hbs hn hm hmt
  have hL : putL ⟨k, ns, bs⟩ = encR ⟨k, ns, bs⟩ := if_pos hmay
  have hE : putE ⟨k, ns, bs⟩ = 0 := if_pos hmay
  rw [hL, hE]
  rw [hmay] at HMT
  subst h1
  have hK1 : K = 1 := hK
  subst hK1
  clear hK
  have hm0 : ¬ 0 < m := fun h => by rw [mayR_1b ns (by have := HM.out; omega)] at hmay; cases hmay
  obtain rfl : m = 0 := by omega
  have hb := List.eq_nil_of_length_eq_zero HM.out
  subst hb
  rw [mayR_1] at hmay
  have hlen := incr_len ns (-1) hmay (by omega)
  have hn255 : n ≤ 255 := by have := HN.out; omega
  have HX := Lib.hid (fun j (hj : j < n) => incr_bound ns (-1) hmay (ns.getD j 0) (by have := HN.out; rw [List.getD_eq_getElem?_getD, List.getElem?_eq_getElem (by omega)]; exact List.getElem_mem _))
  have HBV : Hid (bval (UInt8.ofNat 1) = .int .u8 1) := Lib.hid rfl
  obtain ⟨k, hk1⟩ : ∃ k : Nat, k = 1 := ⟨_, rfl⟩
  rw [← hk1] at HBV
  clear hlen hmay hm0 hnm hmm hL hE
  go_enter Try.func38, Try.ntmps38
  go_upto_region 1 with (refine wpList_boxed rfl rfl #[.int .u8 1, .slice an n cn, .slice ab 0 cb] rfl ?_; intro wb hsb hgb hrb; have HB := Lib.hid hrb; have HG := Lib.hid hgb; clear hsb hgb hrb)
  go_wp2_with (refine wpList_load_row rfl 26 _ rfl w.heap.size rfl 26 #[.int .u8 1, .slice an n cn, .slice ab 0 cb] (0, 0) _ HB.out Try.underlying26 rfl (by kernel_rfl) ?_)
  refine (HMT.out wb HG.out).mono ?_
  rintro e w1 ⟨rfl, hg1⟩
  have HG1 := Lib.hid hg1
  have HB1 := Lib.hid (HB.out.grown hg1)
  clear hg1
  have c0 := Row.cell HB1.out 0
  simp at c0
  go_upto_region 4 with fail
  obtain ⟨W2, hW2⟩ : ∃ W2, W2 = w1.alloc (.cells #[.int .u8 1] 5) := ⟨_, rfl⟩
  rw [← hW2]
  have HA2 : Hid (Acc wb W2 (some ⟨w1.heap.size, 0, none⟩) 1 1 [UInt8.ofNat k]) := Lib.hid (by rw [hW2]; exact Acc.one HG1.out HBV.out.symm)
  have HB2 := Lib.hid (HB.out.grown HA2.out.2)
  clear c0 hW2
  have c0 := Row.cell HB2.out 0
  have c1 := Row.cell HB2.out 1
  have c2 := Row.cell HB2.out 2
  simp at c0 c1 c2
  have hwv : IntKind.u8.wrap (n : Int) = (n : Int) := by rw [show IntKind.u8.wrap (n : Int) = (n : Int) % 256 from rfl]; omega
  go_upto_region 6 with (at_builtin; refine wpList_accP rfl (.tmp 15) (.tmp 20) rfl rfl rfl HA2.out (UInt8.ofNat n) (bval_nat n (by omega)).symm (by simp) ?_; intro a3 n3 k3 w3 h3; have HA3 := Lib.hid h3; clear h3)
  clear c0 c1 c2 hwv
  go_wp2_with fail
  go_loopw [5, 4] (fun vi vo wr => ∃ (j : Nat) (a : Option Addr) (mm c : Nat), j ≤ n ∧ vi = .int .i64 (j : Int) ∧ vo = .slice a mm c ∧ Acc wb wr a mm c (([UInt8.ofNat k] ++ [UInt8.ofNat n]) ++ (ns.take j).map numB)) (fun vi _ _ => n - (intOf vi).toNat)
  case atStart => exact ⟨0, _, _, _, by omega, rfl, rfl, by simpa using HA3.out⟩
  case round =>
    obtain ⟨j, a, mm, c, hj, rfl, rfl, ho⟩ := hrel
    have HA4 := Lib.hid ho
    clear ho
    have HB4 := Lib.hid (HB.out.grown HA4.out.2)
    have c0 := Row.cell HB4.out 0
    have c1 := Row.cell HB4.out 1
    simp at c0 c1
    by_cases hlt2 : j < n
    · obtain ⟨b, off, rfl, hc⟩ := ints_cells ((HNS.out.grown HG.out).grown HA4.out.2) (by have := HN.out; omega)
      have hcj := hc j (by have := HN.out; omega)
      obtain ⟨hx1, hx2⟩ := HX.out j hlt2
      have htk : (ns.take (j + 1)).map numB = (ns.take j).map numB ++ [numB (ns.getD j 0)] := by
        have hjl : j < ns.length := by have := HN.out; omega
        rw [List.take_succ_eq_append_getElem hjl, List.map_append, List.getD_eq_getElem?_getD, List.getElem?_eq_getElem hjl]
        rfl
      have hll : (([UInt8.ofNat k] ++ [UInt8.ofNat n]) ++ (ns.take j).map numB).length + 1 ≤ 140737488355328 := by simp; omega
      obtain ⟨x, hx⟩ : ∃ x, x = ns.getD j 0 := ⟨_, rfl⟩
      rw [← hx] at hcj hx1 hx2 htk
      have HTK := Lib.hid htk
      have HLL := Lib.hid hll
      have HBX := Lib.hid (bval_numB (x := x) (by omega) (by omega))
      have hwv : IntKind.u8.wrap x = x := by rw [show IntKind.u8.wrap x = x % 256 from rfl]; omega
      clear hc htk hx hx1 hx2 hll
      go_wp2_with (at_builtin; refine wpList_accP rfl (.tmp 29) (.tmp 36) rfl rfl rfl HA4.out (numB x) HBX.out.symm HLL.out ?_; intro a5 n5 k5 w5 h5; have HA5 := Lib.hid h5; clear h5)
      go_roundw
      case rel =>
        refine ⟨j + 1, _, _, _, by omega, by first | rfl | go_num, rfl, ?_⟩
        have h := HA5.out
        rw [HTK.out, ← List.append_assoc]
        exact h
      case measure => simp [intOf]; omega
    · obtain rfl : j = n := by omega
      go_wp2_with fail
      go_ret2
      have h := HA4.out
      rw [List.take_of_length_le (by have := HN.out; omega)] at h
      refine ⟨_, _, _, rfl, ?_, grownBy_trans HG.out h.2⟩
      rw [show encR ⟨1, ns, []⟩ = ([UInt8.ofNat k] ++ [UInt8.ofNat j]) ++ ns.map numB from by rw [← HN.out, hk1]; rfl]
      exact h.1.mono HG.out.size
set_option maxRecDepth 100000 in
set_option maxHeartbeats 4000000 in
theorem refPutR_k (K : Int) (k n cn m cb : Nat) (an ab : Option Addr) (ns : List Int) (bs : List UInt8) (w : World) (hK : K = (k : Int)) (hk : k < 256) (hns : Lies w an (IV ns)) (hbs : BLies w ab bs) (hn : ns.length = n) (hm : bs.length = m) (hnm : n ≤ maxLen) (hmm : m ≤ maxLen) (hmay : mayR ⟨k, ns, bs⟩ = true) (h1 : k ≠ 1) (h5 : k ≠ 5) :
    Calls Try.prog 38 #[.agg #[.int .u8 K, .slice an n cn, .slice ab m cb]] w fun e w' => ∃ a' n' c', e = .returned (.tuple #[.slice a' n' c', .int .i64 (putE ⟨k, ns, bs⟩)]) ∧ BOwn w' w.heap.size a' n' c' (putL ⟨k, ns, bs⟩) ∧ w.grownBy w' none := by
  have HNS := Lib.hid hns
  have HBS := Lib.hid hbs
  have HN := Lib.hid hn
  have HM := Lib.hid hm
  have hmt := fun W (hW : w.grownBy W none) => refMayR_n K k n cn m cb an ab ns bs W hK (hns.grown hW) hn hm hnm hmm
  have HMT := Lib.hid hmt
  clear hns hbs hn hm hmt
  have hL : putL ⟨k, ns, bs⟩ = encR ⟨k, ns, bs⟩ := if_pos hmay
  have hE : putE ⟨k, ns, bs⟩ = 0 := if_pos hmay
  rw [hL, hE]
  rw [hmay] at HMT
  have hb1 : (K == 1) = false := by rw [beq_eq_false_iff_ne]; omega
  have hn0 : ¬ 0 < n := fun h => by rw [mayR_n h1 (by have := HN.out; omega)] at hmay; cases hmay
  obtain rfl : n = 0 := by omega
  have hb := List.eq_nil_of_length_eq_zero HN.out
  subst hb
  have hc1 : (K == 5) = false := by rw [beq_eq_false_iff_ne]; omega
  have hm0 : ¬ 0 < m := fun h => by rw [mayR_b h1 h5 (by have := HM.out; omega)] at hmay; cases hmay
  obtain rfl : m = 0 := by omega
  have hb := List.eq_nil_of_length_eq_zero HM.out
  subst hb
  have hen : encR ⟨k, [], []⟩ = [UInt8.ofNat k] := by unfold encR; simp only [if_neg h1, if_neg h5]
  rw [hen]
  have HBV : Hid (bval (UInt8.ofNat k) = .int .u8 K) := Lib.hid (by rw [hK]; exact bval_nat k hk)
  have HKK := Lib.hid hK
  clear hK hn0 hm0 hL hE hen hmay
  go_enter Try.func38, Try.ntmps38
  go_upto_region 1 with (refine wpList_boxed rfl rfl #[.int .u8 K, .slice an 0 cn, .slice ab 0 cb] rfl ?_; intro wb hsb hgb hrb; have HB := Lib.hid hrb; have HG := Lib.hid hgb; clear hsb hgb hrb)
  go_wp2_with (refine wpList_load_row rfl 26 _ rfl w.heap.size rfl 26 #[.int .u8 K, .slice an 0 cn, .slice ab 0 cb] (0, 0) _ HB.out Try.underlying26 rfl (by kernel_rfl) ?_)
  refine (HMT.out wb HG.out).mono ?_
  rintro e w1 ⟨rfl, hg1⟩
  have HG1 := Lib.hid hg1
  have HB1 := Lib.hid (HB.out.grown hg1)
  clear hg1
  have c0 := Row.cell HB1.out 0
  simp at c0
  go_upto_region 4 with fail
  obtain ⟨W2, hW2⟩ : ∃ W2, W2 = w1.alloc (.cells #[.int .u8 K] 5) := ⟨_, rfl⟩
  rw [← hW2]
  have HA2 : Hid (Acc wb W2 (some ⟨w1.heap.size, 0, none⟩) 1 1 [UInt8.ofNat k]) := Lib.hid (by rw [hW2]; exact Acc.one HG1.out HBV.out.symm)
  have HB2 := Lib.hid (HB.out.grown HA2.out.2)
  clear c0 hW2
  have c0 := Row.cell HB2.out 0
  have c1 := Row.cell HB2.out 1
  have c2 := Row.cell HB2.out 2
  simp at c0 c1 c2
  go_wp2_with fail
  go_ret2
  exact ⟨_, _, _, rfl, HA2.out.1.mono HG.out.size, grownBy_trans HG.out HA2.out.2⟩
set_option maxRecDepth 100000 in
set_option maxHeartbeats 4000000 in
theorem refPutR_5 (K : Int) (k n cn m cb : Nat) (an ab : Option Addr) (ns : List Int) (bs : List UInt8) (w : World) (hK : K = (k : Int)) (hk : k < 256) (hns : Lies w an (IV ns)) (hbs : BLies w ab bs) (hn : ns.length = n) (hm : bs.length = m) (hnm : n ≤ maxLen) (hmm : m ≤ maxLen) (hmay : mayR ⟨k, ns, bs⟩ = true) (h5 : k = 5) :
    Calls Try.prog 38 #[.agg #[.int .u8 K, .slice an n cn, .slice ab m cb]] w fun e w' => ∃ a' n' c', e = .returned (.tuple #[.slice a' n' c', .int .i64 (putE ⟨k, ns, bs⟩)]) ∧ BOwn w' w.heap.size a' n' c' (putL ⟨k, ns, bs⟩) ∧ w.grownBy w' none := by
  have HNS := Lib.hid hns
  have HBS := Lib.hid hbs
  have HN := Lib.hid hn
  have HM := Lib.hid hm
  have hmt := fun W (hW : w.grownBy W none) => refMayR_n K k n cn m cb an ab ns bs W hK (hns.grown hW) hn hm hnm hmm
  have HMT := Lib.hid hmt
  clear hns hbs hn hm hmt
  have hL : putL ⟨k, ns, bs⟩ = encR ⟨k, ns, bs⟩ := if_pos hmay
  have hE : putE ⟨k, ns, bs⟩ = 0 := if_pos hmay
  rw [hL, hE]
  rw [hmay] at HMT
  subst h5
  have hK5 : K = 5 := hK
  subst hK5
  clear hK
  have hn0 : ¬ 0 < n := fun h => by rw [mayR_n (by decide) (by have := HN.out; omega)] at hmay; cases hmay
  obtain rfl : n = 0 := by omega
  have hb := List.eq_nil_of_length_eq_zero HN.out
  subst hb
  rw [mayR_5, Bool.and_eq_true, decide_eq_true_eq, decide_eq_true_eq] at hmay
  have hm1 : m ≤ 131072 := by have := HM.out; omega
  have HBV : Hid (bval (UInt8.ofNat 5) = .int .u8 5) := Lib.hid rfl
  have hen : encR ⟨5, [], bs⟩ = ([UInt8.ofNat 5] ++ bigL 4 m) ++ bs := by rw [← HM.out]; rfl
  rw [hen]
  obtain ⟨k, hk5⟩ : ∃ k : Nat, k = 5 := ⟨_, rfl⟩
  rw [← hk5] at HBV ⊢
  clear hn0 hL hE hen hmay hk hnm hmm hk5
  have hbl := bigL_length 4 m
  have HBLL := Lib.hid hbl
  clear hbl
  go_enter Try.func38, Try.ntmps38
  go_upto_region 1 with (refine wpList_boxed rfl rfl #[.int .u8 5, .slice an 0 cn, .slice ab m cb] rfl ?_; intro wb hsb hgb hrb; have HB := Lib.hid hrb; have HG := Lib.hid hgb; clear hsb hgb hrb)
  go_wp2_with (refine wpList_load_row rfl 26 _ rfl w.heap.size rfl 26 #[.int .u8 5, .slice an 0 cn, .slice ab m cb] (0, 0) _ HB.out Try.underlying26 rfl (by kernel_rfl) ?_)
  refine (HMT.out wb HG.out).mono ?_
  rintro e w1 ⟨rfl, hg1⟩
  have HG1 := Lib.hid hg1
  have HB1 := Lib.hid (HB.out.grown hg1)
  clear hg1
  have c0 := Row.cell HB1.out 0
  simp at c0
  go_upto_region 4 with fail
  obtain ⟨W2, hW2⟩ : ∃ W2, W2 = w1.alloc (.cells #[.int .u8 5] 5) := ⟨_, rfl⟩
  rw [← hW2]
  have HA2 : Hid (Acc wb W2 (some ⟨w1.heap.size, 0, none⟩) 1 1 [UInt8.ofNat k]) := Lib.hid (by rw [hW2]; exact Acc.one HG1.out HBV.out.symm)
  have HB2 := Lib.hid (HB.out.grown HA2.out.2)
  clear c0 hW2
  have c0 := Row.cell HB2.out 0
  have c1 := Row.cell HB2.out 1
  have c2 := Row.cell HB2.out 2
  simp at c0 c1 c2
  go_upto_region 12 with (first
    | (go_at_call 61; refine (refBig_n m 4 (by omega) (by omega) _).mono ?_; rintro e w3 ⟨a3, k3, rfl, ho, hg⟩; have HO3 := Lib.hid ho; have HA3 := Lib.hid (HA2.out.grown hg); clear ho hg)
    | (at_builtin; refine wpList_accA rfl (.tmp 41) (.tmp 45) rfl (bigL 4 m) rfl rfl HA3.out HO3.out.lies HBLL.out (by simp) ?_; intro a4 n4 k4 w4 h4; have HA4 := Lib.hid h4; clear h4))
  clear c0 c1 c2
  have HB4 := Lib.hid (HB.out.grown HA4.out.2)
  have c2 := Row.cell HB4.out 2
  simp at c2
  go_wp2_with (at_builtin; refine wpList_accA rfl (.tmp 47) (.tmp 49) rfl bs rfl rfl HA4.out ((HBS.out.grown HG.out).grown HA4.out.2) HM.out (by rw [List.length_append, HBLL.out]; simp; omega) ?_; intro a5 n5 k5 w5 h5; have HA5 := Lib.hid h5; clear h5)
  go_ret2
  exact ⟨_, _, _, rfl, HA5.out.1.mono HG.out.size, grownBy_trans HG.out HA5.out.2⟩
theorem refPutR_n (K : Int) (k n cn m cb : Nat) (an ab : Option Addr) (ns : List Int) (bs : List UInt8) (w : World) (hK : K = (k : Int)) (hk : k < 256) (hns : Lies w an (IV ns)) (hbs : BLies w ab bs) (hn : ns.length = n) (hm : bs.length = m) (hnm : n ≤ maxLen) (hmm : m ≤ maxLen) :
    Calls Try.prog 38 #[.agg #[.int .u8 K, .slice an n cn, .slice ab m cb]] w fun e w' => ∃ a' n' c', e = .returned (.tuple #[.slice a' n' c', .int .i64 (putE ⟨k, ns, bs⟩)]) ∧ BOwn w' w.heap.size a' n' c' (putL ⟨k, ns, bs⟩) ∧ w.grownBy w' none := by
  by_cases hmay : mayR ⟨k, ns, bs⟩ = true
  · by_cases h1 : k = 1
    · exact refPutR_1 K k n cn m cb an ab ns bs w hK hk hns hbs hn hm hnm hmm hmay h1
    · by_cases h5 : k = 5
      · exact refPutR_5 K k n cn m cb an ab ns bs w hK hk hns hbs hn hm hnm hmm hmay h5
      · exact refPutR_k K k n cn m cb an ab ns bs w hK hk hns hbs hn hm hnm hmm hmay h1 h5
  · exact refPutR_no K k n cn m cb an ab ns bs w hK hk hns hbs hn hm hnm hmm hmay
end Go.Proofs.Ytkdmebcfedehiaa
/- The law WireTells. Printed by gens/wiretells.py. -/
namespace Go.Proofs.Ytkdmebcfedehiaa
open Go.RowKit

theorem wpList_load_rowW {P : Program} {ops : Array Oper} {rest : List Oper} {o : Oper} {a : Act} {w : World} {Q : Exit → Act → World → Prop} (hw : Region.wanted o (yielded ops a.tmps) = true) (ty : TypeId) (x : Operand) (ho : o.op = .load ty x)
    (g : Nat) (hx : a.eval x = .pointer (some ⟨g, 0, none⟩)) (t : TypeId) (cs : Array Value) (fr : Nat × Nat) (d : TypeDesc) (hg : w.heap[g]? = some (.cells cs t fr))
    (hu : P.underlying ty = some d) (hd : (match d with | .struct _ | .array _ _ => true | _ => false) = true) (hi : (P.info? ty).map (·.size) = some cs.size)
    (h : wpList P ops Q rest (a.put o.dst (.agg cs)) w) : wpList P ops Q (o :: rest) a w := by
  unfold wpList
  rw [if_pos hw]
  exact .inl (wp_load_row ty x ho g hx t cs fr d hg hu hd hi h)
end Go.Proofs.Ytkdmebcfedehiaa
/- The document's Request: kind 4. Printed by gens/wireref_x.py. -/
namespace Go.Proofs.Ytkdmebcfedehiaa
open Go.RowKit
def oLWireRefX40 : Oper := { dst := none, op := Op.store 24 (Operand.tmp 160) (Operand.tmp 159), type := 0, pos := "ref.go:168", after := #[{ on := 6, ground := Ground.data }, { on := 5, ground := Ground.data }, { on := 5, ground := Ground.chain }, { on := 0, ground := Ground.phase }, { on := 1, ground := Ground.phase }, { on := 2, ground := Ground.phase }, { on := 3, ground := Ground.phase }, { on := 4, ground := Ground.phase }, { on := 5, ground := Ground.phase }], guard := none }

set_option maxRecDepth 100000 in
set_option maxHeartbeats 8000000 in
theorem refReq_4 (a : Option Addr) (n c : Nat) (l : List UInt8) (w : World) (hl : BLies w a l) (hn : l.length = n) (hc : n ≤ c) (hnm : n ≤ 140737488355000) (b off : Nat) (ha : a = some ⟨b, off, none⟩) (h1 : 1 ≤ n) (hK : (4 : Int) = ((l.getD 0 0).toNat : Int)) :
    Calls Try.prog 37 #[.slice a n c] w fun e w' => ReqP w (decQ l) e w' := by
  have hce : ∀ W, w.grownBy W none → ∀ k, k < n → W.cell? ⟨b, off + k, none⟩ = some (.int .u8 ((l.getD k 0).toNat : Int)) := fun W hW k hk => by
    obtain ⟨b', off', e, h⟩ := bytes_cells (hl.grown hW) (by omega)
    rw [ha] at e
    injection e with e
    injection e with e1 e2
    subst e1; subst e2
    exact h k (by omega)
  have HC := Lib.hid hce
  have h00 : ((n : Int) == 0) = false := by rw [beq_eq_false_iff_ne]; omega
  have hK0 : ∀ W, w.grownBy W none → W.cell? ⟨b, off, none⟩ = some (.int .u8 4) := fun W hW => by rw [hK]; exact hce W hW 0 (by omega)
  have HK0 := Lib.hid hK0
  subst ha
  clear hce hK0
  have hk : (l.getD 0 0).toNat = 4 := by omega
  have hne : ¬ (l = [] ∨ headQ (l.getD 0 0).toNat = 0) := fun h => by
    rcases h with h | h
    · rw [h] at hn; simp at hn; omega
    · rw [hk] at h; cases h
  have HHD := Lib.hid (fun W => (refHead_n 4 W).mono (R' := fun e w' => e = .returned (.int .i64 29) ∧ W = w') (fun e w' h => h))
  by_cases hs : n < 29
  · have hd : decQ l = .error n := by
      unfold decQ
      rw [if_neg hne, hk, if_pos (show l.length < headQ 4 by rw [hn]; exact hs), hn]
    rw [hd]
    have i1 : decide ((n : Int) < (29 : Int)) = true := decide_eq_true (by omega)
    have i1' : decide (n < 29) = true := decide_eq_true (by omega)
    clear hl hn hd hK hk hne hc hs
    obtain ⟨ir, zr, hir, hirz, hirs, hz⟩ := info_req
    subst hz
    go_enter Try.func37, Try.ntmps37
    go_upto_region 1 with (refine wpList_made rfl rfl hir hirz ?_; intro w1 hs1 hg1 hr1; have HG1 := Lib.hid hg1; have HT1 := Lib.hid (show Row w1 w.heap.size 43 zRq from hr1); clear hs1 hg1 hr1)
    go_upto_region 2 with (refine wpList_made rfl rfl hir hirz ?_; intro w2 hs1 hg1 hr1; have HG2 := Lib.hid (grownBy_trans HG1.out hg1); have HT2 := Lib.hid (HT1.out.grown hg1); have HN2 := Lib.hid (show Row w2 w1.heap.size 43 zRq from hr1); clear hs1 hg1 hr1)
    obtain ⟨bn, hbn⟩ : ∃ bn, bn = w1.heap.size := ⟨_, rfl⟩
    have HBN := Lib.hid (show w.heap.size < bn ∧ bn < w2.heap.size from ⟨by rw [hbn]; exact HT1.out.lt, by rw [hbn]; exact HN2.out.lt⟩)
    rw [← hbn] at HN2 ⊢
    clear hbn HG1 HT1
    have k0 := HK0.out w2 HG2.out
    go_upto_region 6 with (first | (go_at_call 62; refine (HHD.out _).mono ?_; rintro e w' ⟨rfl, rfl⟩) )
    go_wp2_with (first | (refine wpList_load_row rfl 43 _ rfl bn rfl 43 zRq (0, 0) _ HN2.out Try.underlying43 rfl (by rw [size_req]; rfl) ?_) | (refine wpList_putrow rfl rfl w.heap.size rfl zRq rfl HT2.out (by rw [size_req]; rfl) rfl zreq_one ?_; intro W5 hg5 hr5; have HGz := Lib.hid hg5; have HRz := Lib.hid hr5; clear hg5 hr5))
    refine bodyPost_ret (results_ctt rfl _ _ w.heap.size 43 zRq (0, 0) _ _ _ rfl rfl rfl HRz.out Try.underlying43 rfl (by rw [size_req]; rfl)) rfl ?_
    exact reqP_err (n) _ (rfl) (grownBy_old HG2.out HGz.out (Nat.le_refl _))
  have hlen : 17 ≤ l.length := by omega
  have HIL := Lib.hid (fun j (hj : j ≤ 16) => ixJ_len hlen hj)
  have HIS := Lib.hid (fun j (hj : j < 16) => ixJ_set hlen hj)
  have HIA := Lib.hid (ixJ_all hlen)
  have i1 : decide ((n : Int) < (29 : Int)) = false := decide_eq_false (by omega)
  have i1' : decide (n < 29) = false := decide_eq_false (by omega)
  have HATG := Lib.hid (show ∀ W, w.grownBy W none → ∀ P K : Int, 0 ≤ P → 0 ≤ K → K ≤ 8 → P + K ≤ (n : Int) → Calls Try.prog 63 #[.slice (some ⟨b, off, none⟩) n c, .int .i64 P, .int .i64 K] W fun e w' => e = .returned (.int .u64 ((getN l P.toNat K.toNat : Nat) : Int)) ∧ W = w' from fun W hW P K h1 h2 h3 h4 => by
    have h := refAt_n (some ⟨b, off, none⟩) n c P.toNat K.toNat l W (hl.grown hW) hn (by unfold maxLen; omega) (by omega) (by omega)
    rw [Int.toNat_of_nonneg h1, Int.toNat_of_nonneg h2] at h
    exact h)
  obtain ⟨A, hA⟩ : ∃ A, A = getN l 17 4 := ⟨_, rfl⟩
  have hAlt : A < 4294967296 := by rw [hA]; exact getN_bound l 17 4
  have HRA := Lib.hid (show getN l (Int.toNat 17) (Int.toNat 4) = A from hA.symm)
  have HA := Lib.hid hA
  obtain ⟨T, hT⟩ : ∃ T, T = getN l 21 8 := ⟨_, rfl⟩
  have hTlt : T < 18446744073709551616 := by rw [hT]; exact getN_bound l 21 8
  have HRT := Lib.hid (show getN l (Int.toNat 21) (Int.toNat 8) = T from hT.symm)
  have HT := Lib.hid hT
  have HD := Lib.hid (show decQ l = (if 1099511627776 < getN l 21 8 then .error 21 else endQ l 29 0 ⟨4, seg l 1 16, 0, 0, 0, getN l 17 4, (getN l 21 8 : Nat), []⟩) from by
    unfold decQ
    rw [if_neg hne, hk, if_neg (show ¬ l.length < headQ 4 by rw [hn]; exact hs), if_neg (by decide), if_neg (by decide), if_neg (by decide), if_pos rfl])
  obtain ⟨BX, hBX⟩ : ∃ BX : Int, BX = ((l.getD 17 0).toNat : Int) := ⟨_, rfl⟩
  have hBXb := (l.getD 17 0).toNat_lt
  have HBX := Lib.hid (show BX = ((l.getD 17 0).toNat : Int) ∧ 0 ≤ BX ∧ BX < 256 by omega)
  have H255 := Lib.hid (show l.getD 17 0 = 255 ↔ BX = 255 from by rw [← UInt8.toNat_inj, hBX]; exact ⟨fun h => by rw [h]; rfl, fun h => by have e : (255 : UInt8).toNat = 255 := rfl; omega⟩)
  obtain ⟨Y, hY⟩ : ∃ Y, n - 29 = Y := ⟨_, rfl⟩
  have HY5 := Lib.hid (show 29 ≤ n ∧ n - 29 = Y from ⟨by omega, hY⟩)
  have hYb : Y ≤ 140737488355000 := by omega
  have HSL := Lib.hid (show ∀ W, w.grownBy W none → BLies W (midA (some ⟨b, off, none⟩) 29 c) (l.drop 29) from fun W hW => suf_lies (hl.grown hW) 29 c (by omega) (by omega))
  have HSM := Lib.hid (show (l.drop 29).length = Y by rw [List.length_drop]; omega)
  have HNN := Lib.hid hn
  have hwn : IntKind.u64.wrap (n : Int) = (n : Int) := IntWalk.u64_in _ (by omega)
  have hsn : 29 ≤ n := by omega
  have HSI := Lib.hid (show (29 : Int) ≤ (n : Int) by omega)
  clear hl hn hK hk hne hlen hBX hBXb hY hc hs hA hT
  obtain ⟨ir, zr, hir, hirz, hirs, hz⟩ := info_req
  subst hz
  go_enter Try.func37, Try.ntmps37
  go_upto_region 1 with (refine wpList_made rfl rfl hir hirz ?_; intro w1 hs1 hg1 hr1; have HG1 := Lib.hid hg1; have HT1 := Lib.hid (show Row w1 w.heap.size 43 zRq from hr1); clear hs1 hg1 hr1)
  go_upto_region 2 with (refine wpList_made rfl rfl hir hirz ?_; intro w2 hs1 hg1 hr1; have HG2 := Lib.hid (grownBy_trans HG1.out hg1); have HT2 := Lib.hid (HT1.out.grown hg1); have HN2 := Lib.hid (show Row w2 w1.heap.size 43 zRq from hr1); clear hs1 hg1 hr1)
  obtain ⟨bn, hbn⟩ : ∃ bn, bn = w1.heap.size := ⟨_, rfl⟩
  have HBN := Lib.hid (show w.heap.size < bn ∧ bn < w2.heap.size from ⟨by rw [hbn]; exact HT1.out.lt, by rw [hbn]; exact HN2.out.lt⟩)
  rw [← hbn] at HN2 ⊢
  clear hbn HG1 HT1
  have k0 := HK0.out w2 HG2.out
  go_upto_region 5 with (first | (go_at_call 62; refine (HHD.out _).mono ?_; rintro e w' ⟨rfl, rfl⟩) )
  go_upto_region 8 with (first
    | (refine wpList_valp rfl (run_build_req1 _ _ (.tmp 34) rfl 4 rfl) ?_)
    | (refine wpList_fresh rfl rfl rfl rfl rfl hir hirz hirs (rqC ⟨4, ixJ l 0, 0, 0, 0, 0, 0, []⟩ (.slice none 0 0)) rfl rfl (by rw [rq_len _ _ (HIL.out 0 (by omega))]; rfl) (rq_one _ _ _ _) ?_; intro w3 hs2 hg2 hr2; have HG3 := Lib.hid (grownBy_trans HG2.out hg2); have HR3 := Lib.hid (show Row w3 w2.heap.size 43 (rqC ⟨4, ixJ l 0, 0, 0, 0, 0, 0, []⟩ (.slice none 0 0)) from hr2); have HT3 := Lib.hid (HT2.out.grown hg2); have HN3 := Lib.hid (HN2.out.grown hg2); clear hs2 hg2 hr2))
  obtain ⟨bo, hbo⟩ : ∃ bo, bo = w2.heap.size := ⟨_, rfl⟩
  have HBO := Lib.hid (show w.heap.size < bn ∧ bn < bo ∧ bo < w3.heap.size from ⟨HBN.out.1, by rw [hbo]; exact HBN.out.2, by rw [hbo]; exact HR3.out.lt⟩)
  rw [← hbo] at HR3 ⊢
  clear hbo k0 HT2 HN2 HG2 HBN
  go_wp2_with fail
  go_loopw [8] (fun vi wr => ∃ j : Nat, j ≤ 16 ∧ vi = .int .i64 (j : Int) ∧ Row wr bo 43 (rqC ⟨4, ixJ l j, 0, 0, 0, 0, 0, []⟩ (.slice none 0 0)) ∧ Row wr w.heap.size 43 zRq ∧ Row wr bn 43 zRq ∧ w.grownBy wr none) (fun vi _ => 16 - (intOf vi).toNat)
  case atStart => exact ⟨0, by omega, rfl, HR3.out, HT3.out, HN3.out, HG3.out⟩
  case round =>
    obtain ⟨j, hj, rfl, hr, ht, hn2, hg⟩ := hrel
    obtain ⟨w5, rfl⟩ : ∃ w5, w5 = wr := ⟨_, rfl⟩
    have HR4 := Lib.hid hr
    have HT4 := Lib.hid ht
    have HN4 := Lib.hid hn2
    have HG4 := Lib.hid hg
    clear hr ht hn2 hg
    by_cases hlt : j < 16
    · obtain ⟨v0, x⟩ := rq_ixcell HR4.out (HIL.out j hj) j hlt
      have f := Row.frozen HR4.out (1 + j)
      have hcj := HC.out w5 HG4.out (1 + j) (by omega)
      obtain ⟨XB, hXB⟩ : ∃ XB, XB = l.getD (1 + j) 0 := ⟨_, rfl⟩
      rw [← hXB] at hcj
      have HXB := Lib.hid hXB
      clear hXB
      go_upto_region 10 with fail
      obtain ⟨w6, h⟩ : ∃ w6, w6 = w5.setCell ⟨bo, 1 + j, none⟩ (.int .u8 (XB.toNat : Int)) := ⟨_, rfl⟩
      rw [← h]
      have g : w5.grownBy w6 (some bo) := h ▸ grownBy_setCell _ _ _ _
      have HR6 := Lib.hid (show Row w6 bo 43 (rqC ⟨4, ixJ l (j + 1), 0, 0, 0, 0, 0, []⟩ (.slice none 0 0)) from by
        have k := Row.setc HR4.out (1 + j) (.int .u8 (XB.toNat : Int))
        rw [rq_ixset _ _ (HIL.out j hj) j hlt, HXB.out] at k
        rw [h, HXB.out, ← HIS.out j hlt]
        exact k)
      have HT6 := Lib.hid (HT4.out.grownNe g (by have := HBO.out; omega))
      have HN6 := Lib.hid (HN4.out.grownNe g (by have := HBO.out; omega))
      have HG6 := Lib.hid (grownBy_old HG4.out g (by have := HBO.out; omega))
      clear h g x f hcj
      go_wp2_with fail
      go_roundw
      case rel => exact ⟨j + 1, by omega, by first | rfl | go_num, HR6.out, HT6.out, HN6.out, HG6.out⟩
      case measure => simp [intOf]; omega
    · obtain rfl : j = 16 := by omega
      obtain ⟨Q0, hQ0⟩ : ∃ Q0 : Rq, Q0 = ⟨4, ixJ l 16, 0, 0, 0, 0, 0, []⟩ := ⟨_, rfl⟩
      have HQX := Lib.hid (show Q0.ix.length = 16 by rw [hQ0]; exact HIL.out 16 (by omega))
      have HQ0 := Lib.hid (show Q0.kind = 4 ∧ Q0.ix = seg l 1 16 by rw [hQ0]; exact ⟨rfl, HIA.out⟩)
      have HR5 := Lib.hid (show Row w5 bo 43 (rqG Q0 (.int .i64 0) (.int .i64 0) (.int .i64 0) (.int .u32 0) (.int .i64 0) (.slice none 0 0)) from by rw [hQ0]; exact HR4.out)
      have k1 := rq_kind HR4.out
      have HT5 := Lib.hid HT4.out
      have HN5 := Lib.hid HN4.out
      have HG5' := Lib.hid HG4.out
      have HG5 := Lib.hid HG4.out
      have b17 := fun h => HC.out w5 HG4.out 17 h
      rw [← HBX.out.1] at b17
      clear hQ0 HR4 HT4 HN4
      clear b17
      by_cases cc : 1099511627776 < T
      case pos =>
        have d1 : decide ((1099511627776 : Int) < (T : Int)) = true := decide_eq_true (by omega)
        have d1' : decide (1099511627776 < T) = true := decide_eq_true (by omega)
        have C0 := Lib.hid cc
        clear cc
        go_upto_region 36 with (first | (go_at_call 63; refine (HATG.out _ HG5'.out _ _ (by decide) (by decide) (by decide) (Int.le_trans (by decide) HSI.out)).mono ?_; rintro e w' ⟨rfl, rfl⟩; first | rw [HRT.out]) )
        go_wp2_with (first | (refine wpList_load_row rfl 43 _ rfl bn rfl 43 zRq (0, 0) _ HN5.out Try.underlying43 rfl (by rw [size_req]; rfl) ?_) | (refine wpList_putrow rfl rfl w.heap.size rfl zRq rfl HT5.out (by rw [size_req]; rfl) rfl zreq_one ?_; intro W5 hg5 hr5; have HGz := Lib.hid hg5; have HRz := Lib.hid hr5; clear hg5 hr5))
        refine bodyPost_ret (results_ctt rfl _ _ w.heap.size 43 zRq (0, 0) _ _ _ rfl rfl rfl HRz.out Try.underlying43 rfl (by rw [size_req]; rfl)) rfl ?_
        rw [HD.out, if_pos (by rw [← HT.out]; exact C0.out)]
        exact reqP_err (21) _ (rfl) (grownBy_old HG5'.out HGz.out (Nat.le_refl _))
      have d1 : decide ((1099511627776 : Int) < (T : Int)) = false := decide_eq_false (by omega)
      have d1' : decide (1099511627776 < T) = false := decide_eq_false (by omega)
      have C0 := Lib.hid cc
      clear cc
      have hwA : IntKind.u32.wrap (A : Int) = (A : Int) := by show (A : Int) % 4294967296 = _; omega
      have hwT : IntKind.i64.wrap (T : Int) = (T : Int) := IntWalk.i64_in _ (by have := C0.out; omega)
      go_upto_region 40 with (first
        | (go_at_call 63; refine (HATG.out _ HG5.out _ _ (by decide) (by decide) (by decide) (Int.le_trans (by decide) HSI.out)).mono ?_; rintro e w' ⟨rfl, rfl⟩; first | rw [HRA.out] | rw [HRT.out]) 
        | (refine wpList_valp rfl (run_build_lease2 _ _ (.tmp 125) (.tmp 128) rfl (A : Int) (T : Int) rfl rfl) ?_)
        | (refine wpList_store_mid rfl 41 _ _ rfl bo 20 #[.int .u32 (A : Int), .int .i64 (T : Int)] rfl rfl (rqG_there HR5.out HQX.out 3 2 (by omega)) (by rw [size_lease]; rfl) (by simp [Value.oneCell']) ?_))
      obtain ⟨w6, h⟩ : ∃ w6, w6 = w5.setCells bo 20 [.int .u32 (A : Int), .int .i64 (T : Int)] := ⟨_, rfl⟩
      rw [← h]
      have g : w5.grownBy w6 (some bo) := h ▸ grownBy_setCellsR _ _ _ _
      have HR6 := Lib.hid (show Row w6 bo 43 (rqG Q0 (.int .i64 0) (.int .i64 0) (.int .i64 0) (.int .u32 (A : Int)) (.int .i64 (T : Int)) (.slice none 0 0)) from by
        have k := Row.setcs bo 43 [.int .u32 (A : Int), .int .i64 (T : Int)] 20 w5 _ HR5.out
        unfold laidR laidR laidR at k
        rw [show 20 = 17 + 3 from rfl, rqG_set _ _ _ _ _ _ _ HQX.out] at k
        have k2 : Row _ bo 43 ((rqG Q0 (.int .i64 0) (.int .i64 0) (.int .i64 0) (.int .u32 (A : Int)) (.int .i64 0) (.slice none 0 0)).setIfInBounds (17 + 4) (.int .i64 (T : Int))) := k
        rw [rqG_set _ _ _ _ _ _ _ HQX.out] at k2
        rw [h]
        exact k2)
      have HT6 := Lib.hid (HT5.out.grownNe g (by have := HBO.out; omega))
      have HN6 := Lib.hid (HN5.out.grownNe g (by have := HBO.out; omega))
      have HG6 := Lib.hid (grownBy_old HG5.out g (by have := HBO.out; omega))
      clear h g
      rcases Nat.lt_trichotomy n (29) with hcmp | hcmp | hcmp
      · exact absurd hcmp (by omega)
      · have j1 : decide ((n : Int) < (29 : Int)) = false := decide_eq_false (by omega)
        have j2 : decide ((29 : Int) < (n : Int)) = false := decide_eq_false (by omega)
        have j1' : decide (n < 29) = false := decide_eq_false (by omega)
        have j2' : decide (29 < n) = false := decide_eq_false (by omega)
        have HCMP := Lib.hid hcmp
        clear hcmp
        go_upto_region 44 with fail
        refine wp_normal ?_
        refine wp_regionX (fun u => w6.grownBy u none) 7 (by kernel_rfl) (grownBy_drewN w6 1 none) ?_
        refine wpX_take 0 (v := .pointer (some ⟨bo, 22, none⟩)) (oi := { dst := some 154, op := Op.fieldAddr 43 (Operand.tmp 7) 6, type := 0, pos := "ref.go:168", after := #[], guard := none }) (oL := oLWireRefX40) (clo_grown _) rfl rfl rfl (by kernel_rfl) (by kernel_rfl) (by kernel_rfl) (by kernel_rfl) (by kernel_rfl) (fun _ _ _ h => by cases h.1) (YG.val (by rfl) (fun _ _ => by go_simp)) ?_
        simp only [Act.put, List.setIfInBounds_toArray, List.set_cons_zero, List.set_cons_succ]
        refine wpX_take 1 (v := .slice none 0 0) (oi := { dst := some 155, op := Op.load 24 (Operand.tmp 154), type := 24, pos := "ref.go:168", after := #[{ on := 0, ground := Ground.data }], guard := none }) (oL := oLWireRefX40) (clo_grown _) rfl rfl rfl (by kernel_rfl) (by kernel_rfl) (by kernel_rfl) (by kernel_rfl) (by kernel_rfl) (fun _ _ _ h => by cases h.1) (YG.val (by rfl) (fun u hu => by have c := rqG_cell (HR6.out.grown hu) HQX.out 5; simp at c; go_simp)) ?_
        simp only [Act.put, List.setIfInBounds_toArray, List.set_cons_zero, List.set_cons_succ]
        refine wpX_take 2 (v := .slice (some ⟨b, off, none⟩) n c) (oi := { dst := some 156, op := Op.move (Operand.tmp 0), type := 24, pos := "ref.go:168", after := #[], guard := none }) (oL := oLWireRefX40) (clo_grown _) rfl rfl rfl (by kernel_rfl) (by kernel_rfl) (by kernel_rfl) (by kernel_rfl) (by kernel_rfl) (fun _ _ _ h => by cases h.1) (YG.val (by rfl) (fun _ _ => by go_simp)) ?_
        simp only [Act.put, List.setIfInBounds_toArray, List.set_cons_zero, List.set_cons_succ]
        refine wpX_take 3 (v := .int .i64 29) (oi := { dst := some 157, op := Op.move (Operand.tmp 6), type := 3, pos := "ref.go:168", after := #[], guard := none }) (oL := oLWireRefX40) (clo_grown _) rfl rfl rfl (by kernel_rfl) (by kernel_rfl) (by kernel_rfl) (by kernel_rfl) (by kernel_rfl) (fun _ _ _ h => by cases h.1) (YG.val (by rfl) (fun _ _ => by go_simp)) ?_
        simp only [Act.put, List.setIfInBounds_toArray, List.set_cons_zero, List.set_cons_succ]
        refine wpX_take 4 (v := .slice (midA (some ⟨b, off, none⟩) 29 c) Y (c - 29)) (oi := { dst := some 158, op := Op.slice 24 (Operand.tmp 156) (some (Operand.tmp 157)) none none, type := 24, pos := "ref.go:168", after := #[{ on := 2, ground := Ground.data }, { on := 3, ground := Ground.data }], guard := none }) (oL := oLWireRefX40) (clo_grown _) rfl rfl rfl (by kernel_rfl) (by kernel_rfl) (by kernel_rfl) (by kernel_rfl) (by kernel_rfl) (fun _ _ _ h => by cases h.1) (YG.val (by rfl) (fun u hu => run_suf_op3 u _ (.tmp 156) _ rfl (some ⟨b, off, none⟩) n c 29 Y rfl rfl HY5.out.1 HY5.out.2)) ?_
        simp only [Act.put, List.setIfInBounds_toArray, List.set_cons_zero, List.set_cons_succ]
        refine wpX_step 5 (o := { dst := some 159, op := Op.call { callee := Callee.builtin Builtin.append, args := #[Operand.tmp 155, Operand.tmp 158], argTypes := #[24, 24] }, type := 24, pos := "ref.go:168", after := #[{ on := 1, ground := Ground.data }, { on := 4, ground := Ground.data }], guard := none }) rfl rfl (by kernel_rfl) (by rfl) (fun u2 hS2 K hK => ?_)
        have HKK := Lib.hid hK
        have HS2 := Lib.hid hS2
        clear hK hS2
        obtain ⟨aw9, cw9, wx8, hrun, ho8, hc8, hi8⟩ := run_appBL u2 (base := w6.heap.size) (a := none) (n := 0) (c := 0) (l := []) (Own.nil _ _ _ _ _) (midA (some ⟨b, off, none⟩) 29 c) Y (c - 29) (l.drop 29) (HSL.out u2 (grownBy_trans HG6.out HS2.out)) HSM.out (by omega) HS2.out.size 24
        rw [Nat.zero_add] at hrun ho8
        have g8 : u2.grownBy wx8 none := Ch.fresh (World.grownBy.refl u2 none) hc8 (fun g _ h => by have := h.1; omega)
        have HO8 := Lib.hid ho8
        have G8 := Lib.hid (grownBy_trans HS2.out g8)
        refine wp_val_op (v := .slice aw9 Y cw9) (w1 := wx8) (run_app_op u2 wx8 _ (.tmp 155) (.tmp 158) rfl _ hrun) ?_
        refine HKK.out (fun u => wx8.grownBy u none) _ _ (World.grownBy.refl _ _) (fun u h => grownBy_trans G8.out h) (clo_grown wx8) ?_
        simp only [Act.put, List.setIfInBounds_toArray, List.set_cons_zero, List.set_cons_succ]
        clear HKK HS2 hrun ho8 hc8 hi8 g8
        refine wpX_take 6 (v := .pointer (some ⟨bo, 22, none⟩)) (oi := { dst := some 160, op := Op.fieldAddr 43 (Operand.tmp 7) 6, type := 0, pos := "ref.go:168", after := #[{ on := 0, ground := Ground.phase }, { on := 1, ground := Ground.phase }, { on := 2, ground := Ground.phase }, { on := 3, ground := Ground.phase }, { on := 4, ground := Ground.phase }, { on := 5, ground := Ground.phase }], guard := none }) (oL := oLWireRefX40) (clo_grown _) rfl rfl rfl (by kernel_rfl) (by kernel_rfl) (by kernel_rfl) (by kernel_rfl) (by kernel_rfl) (fun _ _ _ h => by cases h.1) (YG.val (by rfl) (fun _ _ => by go_simp)) ?_
        simp only [Act.put, List.setIfInBounds_toArray, List.set_cons_zero, List.set_cons_succ]
        refine wpX_last (oL := { dst := none, op := Op.store 24 (Operand.tmp 160) (Operand.tmp 159), type := 0, pos := "ref.go:168", after := #[{ on := 6, ground := Ground.data }, { on := 5, ground := Ground.data }, { on := 5, ground := Ground.chain }, { on := 0, ground := Ground.phase }, { on := 1, ground := Ground.phase }, { on := 2, ground := Ground.phase }, { on := 3, ground := Ground.phase }, { on := 4, ground := Ground.phase }, { on := 5, ground := Ground.phase }], guard := none }) rfl (by kernel_rfl) (by kernel_rfl) (by rfl) (fun u4 hS4 K4 hK4 => ?_)
        have hrow4 := HR6.out.grown (grownBy_trans G8.out hS4)
        have hc4 := rqG_cell hrow4 HQX.out 5
        have hf4 := Row.frozen hrow4 22
        simp at hc4
        refine wp_skip_op (w1 := u4.setCell ⟨bo, 22, none⟩ (.slice aw9 Y cw9)) (by go_simp) (hK4 _ _ ?_)
        simp only [Act.put]
        obtain ⟨w9, hw9⟩ : ∃ w9, w9 = u4.setCell ⟨bo, 22, none⟩ (.slice aw9 Y cw9) := ⟨_, rfl⟩
        rw [← hw9]
        have hg9 : u4.grownBy w9 (some bo) := hw9 ▸ grownBy_setCell _ _ _ _
        have R9 := Lib.hid (show Row w9 bo 43 (rqG Q0 (.int .i64 0) (.int .i64 0) (.int .i64 0) (.int .u32 (A : Int)) (.int .i64 (T : Int)) (.slice aw9 Y cw9)) from by
          have k := Row.setc hrow4 22 (.slice aw9 Y cw9)
          rw [show 22 = 17 + 5 from rfl, rqG_set _ _ _ _ _ _ _ HQX.out] at k
          rw [hw9]
          exact k)
        have hown4 := BOwn.grown HO8.out hS4
        have hnb := row_in hrow4 hown4 (by decide)
        have O9 := Lib.hid (show BOwn w9 w6.heap.size aw9 Y cw9 (l.drop 29) from by
          have h := Own.ch hown4 (Ch.ofSome (S := fun x => x = bo) hg9 rfl) (fun h0 g e h => by subst h; exact hnb ⟨h0, e⟩)
          rw [List.nil_append] at h
          exact h)
        have C9 := Lib.hid (show w6.grownBy w9 (some bo) from grownBy_trans (grownBy_some (grownBy_trans G8.out hS4) _) hg9)
        clear hS4 hK4 hrow4 hc4 hf4 hw9 hg9 hown4 hnb HO8 G8
        refine ⟨by first | rfl | trivial, ?_⟩
        have HT9 := Lib.hid (HT6.out.grownNe C9.out (by have := HBO.out; omega))
        have HG9 := Lib.hid (grownBy_old HG6.out C9.out (by have := HBO.out; omega))
        have hcmp := HCMP.out
        obtain ⟨QQ, hQQ⟩ : ∃ QQ : Rq, QQ = { (⟨4, seg l 1 16, 0, 0, 0, getN l 17 4, (getN l 21 8 : Nat), []⟩ : Rq) with bytes := l.drop 29 } := ⟨_, rfl⟩
        have HQ2 := Lib.hid (show QQ.ix.length = 16 by rw [hQQ]; have h := HQX.out; rw [HQ0.out.2] at h; exact h)
        have HRQ := Lib.hid (show Row w9 bo 43 (rqC QQ (.slice aw9 Y cw9)) from by
          have h := R9.out
          unfold rqG at h
          rw [HQ0.out.1, HQ0.out.2] at h
          rw [hQQ]
          rw [← HA.out, ← HT.out]
          exact h)
        clear hcmp
        go_wp2_with (first | (refine wpList_load_row rfl 43 _ rfl bo rfl 43 (rqC QQ (.slice aw9 Y cw9)) (0, 0) _ HRQ.out Try.underlying43 rfl (by rw [size_req]; exact congrArg some (rq_len QQ _ HQ2.out).symm) ?_) | (refine wpList_putrow rfl rfl w.heap.size rfl (rqC QQ (.slice aw9 Y cw9)) rfl HT9.out (by rw [size_req]; exact congrArg some (rq_len QQ _ HQ2.out).symm) (rq_len QQ _ HQ2.out).symm (rq_one _ _ _ _) ?_; intro W5 hg5 hr5; have HG5x := Lib.hid hg5; have HR5x := Lib.hid hr5; clear hg5 hr5))
        refine bodyPost_ret (results_ctt rfl _ _ w.heap.size 43 (rqC QQ (.slice aw9 Y cw9)) (0, 0) _ _ _ rfl rfl rfl HR5x.out Try.underlying43 rfl (by rw [size_req]; exact congrArg some (rq_len QQ _ HQ2.out).symm)) rfl ?_
        rw [HD.out, if_neg (by rw [← HT.out]; exact C0.out)]
        unfold endQ
        rw [HNN.out, if_neg (by have := HCMP.out; omega)]
        have ho5 := Own.ch O9.out (Ch.ofSome (S := fun k => k = w.heap.size) HG5x.out rfl) (fun h0 g e h => by
          have h1 := (Own.inn O9.out (g := g) ⟨h0, e⟩).1
          have h2 := HBO.out
          have h3 := HG6.out.size
          have h4 := HR6.out.lt
          omega)
        rw [hQQ]
        exact ⟨_, _, _, rfl, Own.mono ho5 HG6.out.size, grownBy_old HG9.out HG5x.out (Nat.le_refl _)⟩
      · have j1 : decide ((n : Int) < (29 : Int)) = false := decide_eq_false (by omega)
        have j2 : decide ((29 : Int) < (n : Int)) = true := decide_eq_true (by omega)
        have j1' : decide (n < 29) = false := decide_eq_false (by omega)
        have j2' : decide (29 < n) = true := decide_eq_true (by omega)
        go_upto_region 43 with fail
        go_wp2_with (first | (refine wpList_load_row rfl 43 _ rfl bn rfl 43 zRq (0, 0) _ HN6.out Try.underlying43 rfl (by rw [size_req]; rfl) ?_) | (refine wpList_putrow rfl rfl w.heap.size rfl zRq rfl HT6.out (by rw [size_req]; rfl) rfl zreq_one ?_; intro W5 hg5 hr5; have HGz := Lib.hid hg5; have HRz := Lib.hid hr5; clear hg5 hr5))
        refine bodyPost_ret (results_ctt rfl _ _ w.heap.size 43 zRq (0, 0) _ _ _ rfl rfl rfl HRz.out Try.underlying43 rfl (by rw [size_req]; rfl)) rfl ?_
        rw [HD.out, if_neg (by rw [← HT.out]; exact C0.out)]
        unfold endQ
        rw [HNN.out, if_pos (by omega), show min n (29 + 0) = 29 by omega]
        exact reqP_err (29) _ (by omega) (grownBy_old HG6.out HGz.out (Nat.le_refl _))
end Go.Proofs.Ytkdmebcfedehiaa
