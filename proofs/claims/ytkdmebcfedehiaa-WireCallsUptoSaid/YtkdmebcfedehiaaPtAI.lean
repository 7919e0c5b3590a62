/- Helpers and contracts of the proofs over this seat: WireRefX3, WireRefX5. Each states what a function of the program answers, or is plain Lean; its conditions stand in each statement. -/
import Derived.Test.YtkdmebcfedehiaaPtAA
import Derived.Test.YtkdmebcfedehiaaPtAB
import Derived.Test.YtkdmebcfedehiaaPtAC
import Derived.Test.YtkdmebcfedehiaaPtAD
import Derived.Test.YtkdmebcfedehiaaPtAE
import Derived.Test.YtkdmebcfedehiaaPtAG
set_option linter.unusedVariables false
/- The document's Request: kind 3. Printed by gens/wireref_x.py. -/
namespace Go.Proofs.Ytkdmebcfedehiaa
open Go.RowKit
def oLWireRefX30 : Oper := { dst := none, op := Op.store 24 (Operand.tmp 160) (Operand.tmp 159), type := 0, pos := "ref.go:168", after := #[{ on := 6, ground := Ground.data }, { on := 5, ground := Ground.data }, { on := 5, ground := Ground.chain }, { on := 0, ground := Ground.phase }, { on := 1, ground := Ground.phase }, { on := 2, ground := Ground.phase }, { on := 3, ground := Ground.phase }, { on := 4, ground := Ground.phase }, { on := 5, ground := Ground.phase }], guard := none }

set_option maxRecDepth 100000 in
set_option maxHeartbeats 8000000 in
theorem refReq_3 (a : Option Addr) (n c : Nat) (l : List UInt8) (w : World) (hl : BLies w a l) (hn : l.length = n) (hc : n ≤ c) (hnm : n ≤ 140737488355000) (b off : Nat) (ha : a = some ⟨b, off, none⟩) (h1 : 1 ≤ n) (hK : (3 : Int) = ((l.getD 0 0).toNat : Int)) :
    Calls Try.prog 37 #[.slice a n c] w fun e w' => ReqP w (decQ l) e w' := by
  have hce : ∀ W, w.grownBy W none → ∀ k, k < n → W.cell? ⟨b, off + k, none⟩ = some (.int .u8 ((l.getD k 0).toNat : Int)) := fun W hW k hk => by
    obtain ⟨b', off', e, h⟩ := bytes_cells (hl.grown hW) (by omega)
    rw [ha] at e
    injection e with e
    injection e with e1 e2
    subst e1; subst e2
    exact h k (by omega)
  have HC := Lib.hid hce
  have h00 : ((n : Int) == 0) = false := by rw [beq_eq_false_iff_ne]; omega
  have hK0 : ∀ W, w.grownBy W none → W.cell? ⟨b, off, none⟩ = some (.int .u8 3) := fun W hW => by rw [hK]; exact hce W hW 0 (by omega)
  have HK0 := Lib.hid hK0
  subst ha
  clear hce hK0
  have hk : (l.getD 0 0).toNat = 3 := by omega
  have hne : ¬ (l = [] ∨ headQ (l.getD 0 0).toNat = 0) := fun h => by
    rcases h with h | h
    · rw [h] at hn; simp at hn; omega
    · rw [hk] at h; cases h
  have HHD := Lib.hid (fun W => (refHead_n 3 W).mono (R' := fun e w' => e = .returned (.int .i64 26) ∧ W = w') (fun e w' h => h))
  by_cases hs : n < 26
  · have hd : decQ l = .error n := by
      unfold decQ
      rw [if_neg hne, hk, if_pos (show l.length < headQ 3 by rw [hn]; exact hs), hn]
    rw [hd]
    have i1 : decide ((n : Int) < (26 : Int)) = true := decide_eq_true (by omega)
    have i1' : decide (n < 26) = true := decide_eq_true (by omega)
    clear hl hn hd hK hk hne hc hs
    obtain ⟨ir, zr, hir, hirz, hirs, hz⟩ := info_req
    subst hz
    go_enter Try.func37, Try.ntmps37
    go_upto_region 1 with (refine wpList_made rfl rfl hir hirz ?_; intro w1 hs1 hg1 hr1; have HG1 := Lib.hid hg1; have HT1 := Lib.hid (show Row w1 w.heap.size 43 zRq from hr1); clear hs1 hg1 hr1)
    go_upto_region 2 with (refine wpList_made rfl rfl hir hirz ?_; intro w2 hs1 hg1 hr1; have HG2 := Lib.hid (grownBy_trans HG1.out hg1); have HT2 := Lib.hid (HT1.out.grown hg1); have HN2 := Lib.hid (show Row w2 w1.heap.size 43 zRq from hr1); clear hs1 hg1 hr1)
    obtain ⟨bn, hbn⟩ : ∃ bn, bn = w1.heap.size := ⟨_, rfl⟩
    have HBN := Lib.hid (show w.heap.size < bn ∧ bn < w2.heap.size from ⟨by rw [hbn]; exact HT1.out.lt, by rw [hbn]; exact HN2.out.lt⟩)
    rw [← hbn] at HN2 ⊢
    clear hbn HG1 HT1
    have k0 := HK0.out w2 HG2.out
    go_upto_region 6 with (first | (go_at_call 62; refine (HHD.out _).mono ?_; rintro e w' ⟨rfl, rfl⟩) )
    go_wp2_with (first | (refine wpList_load_row rfl 43 _ rfl bn rfl 43 zRq (0, 0) _ HN2.out Try.underlying43 rfl (by rw [size_req]; rfl) ?_) | (refine wpList_putrow rfl rfl w.heap.size rfl zRq rfl HT2.out (by rw [size_req]; rfl) rfl zreq_one ?_; intro W5 hg5 hr5; have HGz := Lib.hid hg5; have HRz := Lib.hid hr5; clear hg5 hr5))
    refine bodyPost_ret (results_ctt rfl _ _ w.heap.size 43 zRq (0, 0) _ _ _ rfl rfl rfl HRz.out Try.underlying43 rfl (by rw [size_req]; rfl)) rfl ?_
    exact reqP_err (n) _ (rfl) (grownBy_old HG2.out HGz.out (Nat.le_refl _))
  have hlen : 17 ≤ l.length := by omega
  have HIL := Lib.hid (fun j (hj : j ≤ 16) => ixJ_len hlen hj)
  have HIS := Lib.hid (fun j (hj : j < 16) => ixJ_set hlen hj)
  have HIA := Lib.hid (ixJ_all hlen)
  have i1 : decide ((n : Int) < (26 : Int)) = false := decide_eq_false (by omega)
  have i1' : decide (n < 26) = false := decide_eq_false (by omega)
  have HATG := Lib.hid (show ∀ W, w.grownBy W none → ∀ P K : Int, 0 ≤ P → 0 ≤ K → K ≤ 8 → P + K ≤ (n : Int) → Calls Try.prog 63 #[.slice (some ⟨b, off, none⟩) n c, .int .i64 P, .int .i64 K] W fun e w' => e = .returned (.int .u64 ((getN l P.toNat K.toNat : Nat) : Int)) ∧ W = w' from fun W hW P K h1 h2 h3 h4 => by
    have h := refAt_n (some ⟨b, off, none⟩) n c P.toNat K.toNat l W (hl.grown hW) hn (by unfold maxLen; omega) (by omega) (by omega)
    rw [Int.toNat_of_nonneg h1, Int.toNat_of_nonneg h2] at h
    exact h)
  obtain ⟨P, hP⟩ : ∃ P, P = getN l 18 4 := ⟨_, rfl⟩
  have hPlt : P < 4294967296 := by rw [hP]; exact getN_bound l 18 4
  have HRP := Lib.hid (show getN l (Int.toNat 18) (Int.toNat 4) = P from hP.symm)
  have HP := Lib.hid hP
  obtain ⟨E, hE⟩ : ∃ E, E = getN l 22 4 := ⟨_, rfl⟩
  have hElt : E < 4294967296 := by rw [hE]; exact getN_bound l 22 4
  have HRE := Lib.hid (show getN l (Int.toNat 22) (Int.toNat 4) = E from hE.symm)
  have HE := Lib.hid hE
  have HD := Lib.hid (show decQ l = (if l.getD 17 0 = 255 then .error 17 else if 33554432 < getN l 18 4 then .error 18 else if getN l 22 4 < 1 ∨ 131072 < getN l 22 4 then .error 22 else endQ l 26 0 ⟨3, seg l 1 16, byN (l.getD 17 0), (getN l 18 4 : Nat), (getN l 22 4 : Nat), 0, 0, []⟩) from by
    unfold decQ
    rw [if_neg hne, hk, if_neg (show ¬ l.length < headQ 3 by rw [hn]; exact hs), if_neg (by decide), if_neg (by decide), if_pos rfl])
  obtain ⟨BX, hBX⟩ : ∃ BX : Int, BX = ((l.getD 17 0).toNat : Int) := ⟨_, rfl⟩
  have hBXb := (l.getD 17 0).toNat_lt
  have HBX := Lib.hid (show BX = ((l.getD 17 0).toNat : Int) ∧ 0 ≤ BX ∧ BX < 256 by omega)
  have H255 := Lib.hid (show l.getD 17 0 = 255 ↔ BX = 255 from by rw [← UInt8.toNat_inj, hBX]; exact ⟨fun h => by rw [h]; rfl, fun h => by have e : (255 : UInt8).toNat = 255 := rfl; omega⟩)
  obtain ⟨Y, hY⟩ : ∃ Y, n - 26 = Y := ⟨_, rfl⟩
  have HY5 := Lib.hid (show 26 ≤ n ∧ n - 26 = Y from ⟨by omega, hY⟩)
  have hYb : Y ≤ 140737488355000 := by omega
  have HSL := Lib.hid (show ∀ W, w.grownBy W none → BLies W (midA (some ⟨b, off, none⟩) 26 c) (l.drop 26) from fun W hW => suf_lies (hl.grown hW) 26 c (by omega) (by omega))
  have HSM := Lib.hid (show (l.drop 26).length = Y by rw [List.length_drop]; omega)
  have HNN := Lib.hid hn
  have hwn : IntKind.u64.wrap (n : Int) = (n : Int) := IntWalk.u64_in _ (by omega)
  have hsn : 26 ≤ n := by omega
  have HSI := Lib.hid (show (26 : Int) ≤ (n : Int) by omega)
  clear hl hn hK hk hne hlen hBX hBXb hY hc hs hP hE
  obtain ⟨ir, zr, hir, hirz, hirs, hz⟩ := info_req
  subst hz
  go_enter Try.func37, Try.ntmps37
  go_upto_region 1 with (refine wpList_made rfl rfl hir hirz ?_; intro w1 hs1 hg1 hr1; have HG1 := Lib.hid hg1; have HT1 := Lib.hid (show Row w1 w.heap.size 43 zRq from hr1); clear hs1 hg1 hr1)
  go_upto_region 2 with (refine wpList_made rfl rfl hir hirz ?_; intro w2 hs1 hg1 hr1; have HG2 := Lib.hid (grownBy_trans HG1.out hg1); have HT2 := Lib.hid (HT1.out.grown hg1); have HN2 := Lib.hid (show Row w2 w1.heap.size 43 zRq from hr1); clear hs1 hg1 hr1)
  obtain ⟨bn, hbn⟩ : ∃ bn, bn = w1.heap.size := ⟨_, rfl⟩
  have HBN := Lib.hid (show w.heap.size < bn ∧ bn < w2.heap.size from ⟨by rw [hbn]; exact HT1.out.lt, by rw [hbn]; exact HN2.out.lt⟩)
  rw [← hbn] at HN2 ⊢
  clear hbn HG1 HT1
  have k0 := HK0.out w2 HG2.out
  go_upto_region 5 with (first | (go_at_call 62; refine (HHD.out _).mono ?_; rintro e w' ⟨rfl, rfl⟩) )
  go_upto_region 8 with (first
    | (refine wpList_valp rfl (run_build_req1 _ _ (.tmp 34) rfl 3 rfl) ?_)
    | (refine wpList_fresh rfl rfl rfl rfl rfl hir hirz hirs (rqC ⟨3, ixJ l 0, 0, 0, 0, 0, 0, []⟩ (.slice none 0 0)) rfl rfl (by rw [rq_len _ _ (HIL.out 0 (by omega))]; rfl) (rq_one _ _ _ _) ?_; intro w3 hs2 hg2 hr2; have HG3 := Lib.hid (grownBy_trans HG2.out hg2); have HR3 := Lib.hid (show Row w3 w2.heap.size 43 (rqC ⟨3, ixJ l 0, 0, 0, 0, 0, 0, []⟩ (.slice none 0 0)) from hr2); have HT3 := Lib.hid (HT2.out.grown hg2); have HN3 := Lib.hid (HN2.out.grown hg2); clear hs2 hg2 hr2))
  obtain ⟨bo, hbo⟩ : ∃ bo, bo = w2.heap.size := ⟨_, rfl⟩
  have HBO := Lib.hid (show w.heap.size < bn ∧ bn < bo ∧ bo < w3.heap.size from ⟨HBN.out.1, by rw [hbo]; exact HBN.out.2, by rw [hbo]; exact HR3.out.lt⟩)
  rw [← hbo] at HR3 ⊢
  clear hbo k0 HT2 HN2 HG2 HBN
  go_wp2_with fail
  go_loopw [8] (fun vi wr => ∃ j : Nat, j ≤ 16 ∧ vi = .int .i64 (j : Int) ∧ Row wr bo 43 (rqC ⟨3, ixJ l j, 0, 0, 0, 0, 0, []⟩ (.slice none 0 0)) ∧ Row wr w.heap.size 43 zRq ∧ Row wr bn 43 zRq ∧ w.grownBy wr none) (fun vi _ => 16 - (intOf vi).toNat)
  case atStart => exact ⟨0, by omega, rfl, HR3.out, HT3.out, HN3.out, HG3.out⟩
  case round =>
    obtain ⟨j, hj, rfl, hr, ht, hn2, hg⟩ := hrel
    obtain ⟨w5, rfl⟩ : ∃ w5, w5 = wr := ⟨_, rfl⟩
    have HR4 := Lib.hid hr
    have HT4 := Lib.hid ht
    have HN4 := Lib.hid hn2
    have HG4 := Lib.hid hg
    clear hr ht hn2 hg
    by_cases hlt : j < 16
    · obtain ⟨v0, x⟩ := rq_ixcell HR4.out (HIL.out j hj) j hlt
      have f := Row.frozen HR4.out (1 + j)
      have hcj := HC.out w5 HG4.out (1 + j) (by omega)
      obtain ⟨XB, hXB⟩ : ∃ XB, XB = l.getD (1 + j) 0 := ⟨_, rfl⟩
      rw [← hXB] at hcj
      have HXB := Lib.hid hXB
      clear hXB
      go_upto_region 10 with fail
      obtain ⟨w6, h⟩ : ∃ w6, w6 = w5.setCell ⟨bo, 1 + j, none⟩ (.int .u8 (XB.toNat : Int)) := ⟨_, rfl⟩
      rw [← h]
      have g : w5.grownBy w6 (some bo) := h ▸ grownBy_setCell _ _ _ _
      have HR6 := Lib.hid (show Row w6 bo 43 (rqC ⟨3, ixJ l (j + 1), 0, 0, 0, 0, 0, []⟩ (.slice none 0 0)) from by
        have k := Row.setc HR4.out (1 + j) (.int .u8 (XB.toNat : Int))
        rw [rq_ixset _ _ (HIL.out j hj) j hlt, HXB.out] at k
        rw [h, HXB.out, ← HIS.out j hlt]
        exact k)
      have HT6 := Lib.hid (HT4.out.grownNe g (by have := HBO.out; omega))
      have HN6 := Lib.hid (HN4.out.grownNe g (by have := HBO.out; omega))
      have HG6 := Lib.hid (grownBy_old HG4.out g (by have := HBO.out; omega))
      clear h g x f hcj
      go_wp2_with fail
      go_roundw
      case rel => exact ⟨j + 1, by omega, by first | rfl | go_num, HR6.out, HT6.out, HN6.out, HG6.out⟩
      case measure => simp [intOf]; omega
    · obtain rfl : j = 16 := by omega
      obtain ⟨Q0, hQ0⟩ : ∃ Q0 : Rq, Q0 = ⟨3, ixJ l 16, 0, 0, 0, 0, 0, []⟩ := ⟨_, rfl⟩
      have HQX := Lib.hid (show Q0.ix.length = 16 by rw [hQ0]; exact HIL.out 16 (by omega))
      have HQ0 := Lib.hid (show Q0.kind = 3 ∧ Q0.ix = seg l 1 16 by rw [hQ0]; exact ⟨rfl, HIA.out⟩)
      have HR5 := Lib.hid (show Row w5 bo 43 (rqG Q0 (.int .i64 0) (.int .i64 0) (.int .i64 0) (.int .u32 0) (.int .i64 0) (.slice none 0 0)) from by rw [hQ0]; exact HR4.out)
      have k1 := rq_kind HR4.out
      have HT5 := Lib.hid HT4.out
      have HN5 := Lib.hid HN4.out
      have HG5' := Lib.hid HG4.out
      have HG5 := Lib.hid HG4.out
      have b17 := fun h => HC.out w5 HG4.out 17 h
      rw [← HBX.out.1] at b17
      clear hQ0 HR4 HT4 HN4
      have b17 := b17 (by omega)
      by_cases cc : BX = 255
      case pos =>
        have e255 : (BX == 255) = true := by rw [beq_iff_eq]; exact cc
        have C0 := Lib.hid cc
        clear cc
        go_upto_region 26 with fail
        go_wp2_with (first | (refine wpList_load_row rfl 43 _ rfl bn rfl 43 zRq (0, 0) _ HN5.out Try.underlying43 rfl (by rw [size_req]; rfl) ?_) | (refine wpList_putrow rfl rfl w.heap.size rfl zRq rfl HT5.out (by rw [size_req]; rfl) rfl zreq_one ?_; intro W5 hg5 hr5; have HGz := Lib.hid hg5; have HRz := Lib.hid hr5; clear hg5 hr5))
        refine bodyPost_ret (results_ctt rfl _ _ w.heap.size 43 zRq (0, 0) _ _ _ rfl rfl rfl HRz.out Try.underlying43 rfl (by rw [size_req]; rfl)) rfl ?_
        rw [HD.out, if_pos (H255.out.2 C0.out)]
        exact reqP_err (17) _ (rfl) (grownBy_old HG5'.out HGz.out (Nat.le_refl _))
      have e255 : (BX == 255) = false := by rw [beq_eq_false_iff_ne]; exact cc
      have C0 := Lib.hid cc
      clear cc
      by_cases cc : 33554432 < P
      case pos =>
        have d1 : decide ((33554432 : Int) < (P : Int)) = true := decide_eq_true (by omega)
        have d1' : decide (33554432 < P) = true := decide_eq_true (by omega)
        have C1 := Lib.hid cc
        clear cc
        go_upto_region 28 with (first | (go_at_call 63; refine (HATG.out _ HG5'.out _ _ (by decide) (by decide) (by decide) (Int.le_trans (by decide) HSI.out)).mono ?_; rintro e w' ⟨rfl, rfl⟩; first | rw [HRP.out]) )
        go_wp2_with (first | (refine wpList_load_row rfl 43 _ rfl bn rfl 43 zRq (0, 0) _ HN5.out Try.underlying43 rfl (by rw [size_req]; rfl) ?_) | (refine wpList_putrow rfl rfl w.heap.size rfl zRq rfl HT5.out (by rw [size_req]; rfl) rfl zreq_one ?_; intro W5 hg5 hr5; have HGz := Lib.hid hg5; have HRz := Lib.hid hr5; clear hg5 hr5))
        refine bodyPost_ret (results_ctt rfl _ _ w.heap.size 43 zRq (0, 0) _ _ _ rfl rfl rfl HRz.out Try.underlying43 rfl (by rw [size_req]; rfl)) rfl ?_
        rw [HD.out, if_neg (by rw [H255.out]; exact C0.out), if_pos (by rw [← HP.out]; exact C1.out)]
        exact reqP_err (18) _ (rfl) (grownBy_old HG5'.out HGz.out (Nat.le_refl _))
      have d1 : decide ((33554432 : Int) < (P : Int)) = false := decide_eq_false (by omega)
      have d1' : decide (33554432 < P) = false := decide_eq_false (by omega)
      have C1 := Lib.hid cc
      clear cc
      by_cases cc : E < 1
      case pos =>
        have d2 : decide ((E : Int) < (1 : Int)) = true := decide_eq_true (by omega)
        have d2' : decide (E < 1) = true := decide_eq_true (by omega)
        have C2 := Lib.hid cc
        clear cc
        go_upto_region 30 with (first | (go_at_call 63; refine (HATG.out _ HG5'.out _ _ (by decide) (by decide) (by decide) (Int.le_trans (by decide) HSI.out)).mono ?_; rintro e w' ⟨rfl, rfl⟩; first | rw [HRP.out] | rw [HRE.out]) )
        go_wp2_with (first | (refine wpList_load_row rfl 43 _ rfl bn rfl 43 zRq (0, 0) _ HN5.out Try.underlying43 rfl (by rw [size_req]; rfl) ?_) | (refine wpList_putrow rfl rfl w.heap.size rfl zRq rfl HT5.out (by rw [size_req]; rfl) rfl zreq_one ?_; intro W5 hg5 hr5; have HGz := Lib.hid hg5; have HRz := Lib.hid hr5; clear hg5 hr5))
        refine bodyPost_ret (results_ctt rfl _ _ w.heap.size 43 zRq (0, 0) _ _ _ rfl rfl rfl HRz.out Try.underlying43 rfl (by rw [size_req]; rfl)) rfl ?_
        rw [HD.out, if_neg (by rw [H255.out]; exact C0.out), if_neg (by rw [← HP.out]; exact C1.out), if_pos (by rw [← HE.out]; exact .inl C2.out)]
        exact reqP_err (22) _ (rfl) (grownBy_old HG5'.out HGz.out (Nat.le_refl _))
      have d2 : decide ((E : Int) < (1 : Int)) = false := decide_eq_false (by omega)
      have d2' : decide (E < 1) = false := decide_eq_false (by omega)
      have C2 := Lib.hid cc
      clear cc
      by_cases cc : 131072 < E
      case pos =>
        have d3 : decide ((131072 : Int) < (E : Int)) = true := decide_eq_true (by omega)
        have d3' : decide (131072 < E) = true := decide_eq_true (by omega)
        have C3 := Lib.hid cc
        clear cc
        go_upto_region 30 with (first | (go_at_call 63; refine (HATG.out _ HG5'.out _ _ (by decide) (by decide) (by decide) (Int.le_trans (by decide) HSI.out)).mono ?_; rintro e w' ⟨rfl, rfl⟩; first | rw [HRP.out] | rw [HRE.out]) )
        go_wp2_with (first | (refine wpList_load_row rfl 43 _ rfl bn rfl 43 zRq (0, 0) _ HN5.out Try.underlying43 rfl (by rw [size_req]; rfl) ?_) | (refine wpList_putrow rfl rfl w.heap.size rfl zRq rfl HT5.out (by rw [size_req]; rfl) rfl zreq_one ?_; intro W5 hg5 hr5; have HGz := Lib.hid hg5; have HRz := Lib.hid hr5; clear hg5 hr5))
        refine bodyPost_ret (results_ctt rfl _ _ w.heap.size 43 zRq (0, 0) _ _ _ rfl rfl rfl HRz.out Try.underlying43 rfl (by rw [size_req]; rfl)) rfl ?_
        rw [HD.out, if_neg (by rw [H255.out]; exact C0.out), if_neg (by rw [← HP.out]; exact C1.out), if_pos (by rw [← HE.out]; exact .inr C3.out)]
        exact reqP_err (22) _ (rfl) (grownBy_old HG5'.out HGz.out (Nat.le_refl _))
      have d3 : decide ((131072 : Int) < (E : Int)) = false := decide_eq_false (by omega)
      have d3' : decide (131072 < E) = false := decide_eq_false (by omega)
      have C3x := Lib.hid cc
      clear cc
      have C2x := C2
      clear C2
      have C2 := Lib.hid (show ¬ (E < 1 ∨ 131072 < E) from fun h => by rcases h with h | h; exact C2x.out h; exact C3x.out h)
      have hwb : IntKind.i64.wrap BX = BX := by have := HBX.out; exact IntWalk.i64_in _ (by omega)
      have hwP : IntKind.i64.wrap (P : Int) = (P : Int) := IntWalk.i64_in _ (by omega)
      have hwE : IntKind.i64.wrap (E : Int) = (E : Int) := IntWalk.i64_in _ (by omega)
      have x := rqG_cell HR5.out HQX.out 0
      have f := Row.frozen HR5.out 17
      simp at x
      go_upto_region 32 with (first | (go_at_call 63; refine (HATG.out _ HG5.out _ _ (by decide) (by decide) (by decide) (Int.le_trans (by decide) HSI.out)).mono ?_; rintro e w' ⟨rfl, rfl⟩; first | rw [HRP.out] | rw [HRE.out]) | fail)
      obtain ⟨w6, h⟩ : ∃ w6, w6 = w5.setCell ⟨bo, 17, none⟩ (.int .i64 BX) := ⟨_, rfl⟩
      rw [← h]
      have g : w5.grownBy w6 (some bo) := h ▸ grownBy_setCell _ _ _ _
      have HR6 := Lib.hid (show Row w6 bo 43 (rqG Q0 (.int .i64 BX) (.int .i64 0) (.int .i64 0) (.int .u32 0) (.int .i64 0) (.slice none 0 0)) from by
        have k := Row.setc HR5.out 17 (.int .i64 BX)
        rw [show 17 = 17 + 0 from rfl, rqG_set _ _ _ _ _ _ _ HQX.out] at k
        rw [h]
        exact k)
      have HT6 := Lib.hid (HT5.out.grownNe g (by have := HBO.out; omega))
      have HN6 := Lib.hid (HN5.out.grownNe g (by have := HBO.out; omega))
      have HG6 := Lib.hid (grownBy_old HG5.out g (by have := HBO.out; omega))
      clear h g x f
      have x := rqG_cell HR6.out HQX.out 1
      have f := Row.frozen HR6.out 18
      simp at x
      go_upto_region 33 with (first | (go_at_call 63; refine (HATG.out _ HG6.out _ _ (by decide) (by decide) (by decide) (Int.le_trans (by decide) HSI.out)).mono ?_; rintro e w' ⟨rfl, rfl⟩; first | rw [HRP.out]) | fail)
      obtain ⟨w7, h⟩ : ∃ w7, w7 = w6.setCell ⟨bo, 18, none⟩ (.int .i64 (P : Int)) := ⟨_, rfl⟩
      rw [← h]
      have g : w6.grownBy w7 (some bo) := h ▸ grownBy_setCell _ _ _ _
      have HR7 := Lib.hid (show Row w7 bo 43 (rqG Q0 (.int .i64 BX) (.int .i64 (P : Int)) (.int .i64 0) (.int .u32 0) (.int .i64 0) (.slice none 0 0)) from by
        have k := Row.setc HR6.out 18 (.int .i64 (P : Int))
        rw [show 18 = 17 + 1 from rfl, rqG_set _ _ _ _ _ _ _ HQX.out] at k
        rw [h]
        exact k)
      have HT7 := Lib.hid (HT6.out.grownNe g (by have := HBO.out; omega))
      have HN7 := Lib.hid (HN6.out.grownNe g (by have := HBO.out; omega))
      have HG7 := Lib.hid (grownBy_old HG6.out g (by have := HBO.out; omega))
      clear h g x f
      have x := rqG_cell HR7.out HQX.out 2
      have f := Row.frozen HR7.out 19
      simp at x
      go_upto_region 40 with (first | (go_at_call 63; refine (HATG.out _ HG7.out _ _ (by decide) (by decide) (by decide) (Int.le_trans (by decide) HSI.out)).mono ?_; rintro e w' ⟨rfl, rfl⟩; first | rw [HRE.out]) | fail)
      obtain ⟨w8, h⟩ : ∃ w8, w8 = w7.setCell ⟨bo, 19, none⟩ (.int .i64 (E : Int)) := ⟨_, rfl⟩
      rw [← h]
      have g : w7.grownBy w8 (some bo) := h ▸ grownBy_setCell _ _ _ _
      have HR8 := Lib.hid (show Row w8 bo 43 (rqG Q0 (.int .i64 BX) (.int .i64 (P : Int)) (.int .i64 (E : Int)) (.int .u32 0) (.int .i64 0) (.slice none 0 0)) from by
        have k := Row.setc HR7.out 19 (.int .i64 (E : Int))
        rw [show 19 = 17 + 2 from rfl, rqG_set _ _ _ _ _ _ _ HQX.out] at k
        rw [h]
        exact k)
      have HT8 := Lib.hid (HT7.out.grownNe g (by have := HBO.out; omega))
      have HN8 := Lib.hid (HN7.out.grownNe g (by have := HBO.out; omega))
      have HG8 := Lib.hid (grownBy_old HG7.out g (by have := HBO.out; omega))
      clear h g x f
      rcases Nat.lt_trichotomy n (26) with hcmp | hcmp | hcmp
      · exact absurd hcmp (by omega)
      · have j1 : decide ((n : Int) < (26 : Int)) = false := decide_eq_false (by omega)
        have j2 : decide ((26 : Int) < (n : Int)) = false := decide_eq_false (by omega)
        have j1' : decide (n < 26) = false := decide_eq_false (by omega)
        have j2' : decide (26 < n) = false := decide_eq_false (by omega)
        have HCMP := Lib.hid hcmp
        clear hcmp
        go_upto_region 44 with fail
        refine wp_normal ?_
        refine wp_regionX (fun u => w8.grownBy u none) 7 (by kernel_rfl) (grownBy_drewN w8 1 none) ?_
        refine wpX_take 0 (v := .pointer (some ⟨bo, 22, none⟩)) (oi := { dst := some 154, op := Op.fieldAddr 43 (Operand.tmp 7) 6, type := 0, pos := "ref.go:168", after := #[], guard := none }) (oL := oLWireRefX30) (clo_grown _) rfl rfl rfl (by kernel_rfl) (by kernel_rfl) (by kernel_rfl) (by kernel_rfl) (by kernel_rfl) (fun _ _ _ h => by cases h.1) (YG.val (by rfl) (fun _ _ => by go_simp)) ?_
        simp only [Act.put, List.setIfInBounds_toArray, List.set_cons_zero, List.set_cons_succ]
        refine wpX_take 1 (v := .slice none 0 0) (oi := { dst := some 155, op := Op.load 24 (Operand.tmp 154), type := 24, pos := "ref.go:168", after := #[{ on := 0, ground := Ground.data }], guard := none }) (oL := oLWireRefX30) (clo_grown _) rfl rfl rfl (by kernel_rfl) (by kernel_rfl) (by kernel_rfl) (by kernel_rfl) (by kernel_rfl) (fun _ _ _ h => by cases h.1) (YG.val (by rfl) (fun u hu => by have c := rqG_cell (HR8.out.grown hu) HQX.out 5; simp at c; go_simp)) ?_
        simp only [Act.put, List.setIfInBounds_toArray, List.set_cons_zero, List.set_cons_succ]
        refine wpX_take 2 (v := .slice (some ⟨b, off, none⟩) n c) (oi := { dst := some 156, op := Op.move (Operand.tmp 0), type := 24, pos := "ref.go:168", after := #[], guard := none }) (oL := oLWireRefX30) (clo_grown _) rfl rfl rfl (by kernel_rfl) (by kernel_rfl) (by kernel_rfl) (by kernel_rfl) (by kernel_rfl) (fun _ _ _ h => by cases h.1) (YG.val (by rfl) (fun _ _ => by go_simp)) ?_
        simp only [Act.put, List.setIfInBounds_toArray, List.set_cons_zero, List.set_cons_succ]
        refine wpX_take 3 (v := .int .i64 26) (oi := { dst := some 157, op := Op.move (Operand.tmp 6), type := 3, pos := "ref.go:168", after := #[], guard := none }) (oL := oLWireRefX30) (clo_grown _) rfl rfl rfl (by kernel_rfl) (by kernel_rfl) (by kernel_rfl) (by kernel_rfl) (by kernel_rfl) (fun _ _ _ h => by cases h.1) (YG.val (by rfl) (fun _ _ => by go_simp)) ?_
        simp only [Act.put, List.setIfInBounds_toArray, List.set_cons_zero, List.set_cons_succ]
        refine wpX_take 4 (v := .slice (midA (some ⟨b, off, none⟩) 26 c) Y (c - 26)) (oi := { dst := some 158, op := Op.slice 24 (Operand.tmp 156) (some (Operand.tmp 157)) none none, type := 24, pos := "ref.go:168", after := #[{ on := 2, ground := Ground.data }, { on := 3, ground := Ground.data }], guard := none }) (oL := oLWireRefX30) (clo_grown _) rfl rfl rfl (by kernel_rfl) (by kernel_rfl) (by kernel_rfl) (by kernel_rfl) (by kernel_rfl) (fun _ _ _ h => by cases h.1) (YG.val (by rfl) (fun u hu => run_suf_op3 u _ (.tmp 156) _ rfl (some ⟨b, off, none⟩) n c 26 Y rfl rfl HY5.out.1 HY5.out.2)) ?_
        simp only [Act.put, List.setIfInBounds_toArray, List.set_cons_zero, List.set_cons_succ]
        refine wpX_step 5 (o := { dst := some 159, op := Op.call { callee := Callee.builtin Builtin.append, args := #[Operand.tmp 155, Operand.tmp 158], argTypes := #[24, 24] }, type := 24, pos := "ref.go:168", after := #[{ on := 1, ground := Ground.data }, { on := 4, ground := Ground.data }], guard := none }) rfl rfl (by kernel_rfl) (by rfl) (fun u2 hS2 K hK => ?_)
        have HKK := Lib.hid hK
        have HS2 := Lib.hid hS2
        clear hK hS2
        obtain ⟨aw9, cw9, wx8, hrun, ho8, hc8, hi8⟩ := run_appBL u2 (base := w8.heap.size) (a := none) (n := 0) (c := 0) (l := []) (Own.nil _ _ _ _ _) (midA (some ⟨b, off, none⟩) 26 c) Y (c - 26) (l.drop 26) (HSL.out u2 (grownBy_trans HG8.out HS2.out)) HSM.out (by omega) HS2.out.size 24
        rw [Nat.zero_add] at hrun ho8
        have g8 : u2.grownBy wx8 none := Ch.fresh (World.grownBy.refl u2 none) hc8 (fun g _ h => by have := h.1; omega)
        have HO8 := Lib.hid ho8
        have G8 := Lib.hid (grownBy_trans HS2.out g8)
        refine wp_val_op (v := .slice aw9 Y cw9) (w1 := wx8) (run_app_op u2 wx8 _ (.tmp 155) (.tmp 158) rfl _ hrun) ?_
        refine HKK.out (fun u => wx8.grownBy u none) _ _ (World.grownBy.refl _ _) (fun u h => grownBy_trans G8.out h) (clo_grown wx8) ?_
        simp only [Act.put, List.setIfInBounds_toArray, List.set_cons_zero, List.set_cons_succ]
        clear HKK HS2 hrun ho8 hc8 hi8 g8
        refine wpX_take 6 (v := .pointer (some ⟨bo, 22, none⟩)) (oi := { dst := some 160, op := Op.fieldAddr 43 (Operand.tmp 7) 6, type := 0, pos := "ref.go:168", after := #[{ on := 0, ground := Ground.phase }, { on := 1, ground := Ground.phase }, { on := 2, ground := Ground.phase }, { on := 3, ground := Ground.phase }, { on := 4, ground := Ground.phase }, { on := 5, ground := Ground.phase }], guard := none }) (oL := oLWireRefX30) (clo_grown _) rfl rfl rfl (by kernel_rfl) (by kernel_rfl) (by kernel_rfl) (by kernel_rfl) (by kernel_rfl) (fun _ _ _ h => by cases h.1) (YG.val (by rfl) (fun _ _ => by go_simp)) ?_
        simp only [Act.put, List.setIfInBounds_toArray, List.set_cons_zero, List.set_cons_succ]
        refine wpX_last (oL := { dst := none, op := Op.store 24 (Operand.tmp 160) (Operand.tmp 159), type := 0, pos := "ref.go:168", after := #[{ on := 6, ground := Ground.data }, { on := 5, ground := Ground.data }, { on := 5, ground := Ground.chain }, { on := 0, ground := Ground.phase }, { on := 1, ground := Ground.phase }, { on := 2, ground := Ground.phase }, { on := 3, ground := Ground.phase }, { on := 4, ground := Ground.phase }, { on := 5, ground := Ground.phase }], guard := none }) rfl (by kernel_rfl) (by kernel_rfl) (by rfl) (fun u4 hS4 K4 hK4 => ?_)
        have hrow4 := HR8.out.grown (grownBy_trans G8.out hS4)
        have hc4 := rqG_cell hrow4 HQX.out 5
        have hf4 := Row.frozen hrow4 22
        simp at hc4
        refine wp_skip_op (w1 := u4.setCell ⟨bo, 22, none⟩ (.slice aw9 Y cw9)) (by go_simp) (hK4 _ _ ?_)
        simp only [Act.put]
        obtain ⟨w9, hw9⟩ : ∃ w9, w9 = u4.setCell ⟨bo, 22, none⟩ (.slice aw9 Y cw9) := ⟨_, rfl⟩
        rw [← hw9]
        have hg9 : u4.grownBy w9 (some bo) := hw9 ▸ grownBy_setCell _ _ _ _
        have R9 := Lib.hid (show Row w9 bo 43 (rqG Q0 (.int .i64 BX) (.int .i64 (P : Int)) (.int .i64 (E : Int)) (.int .u32 0) (.int .i64 0) (.slice aw9 Y cw9)) from by
          have k := Row.setc hrow4 22 (.slice aw9 Y cw9)
          rw [show 22 = 17 + 5 from rfl, rqG_set _ _ _ _ _ _ _ HQX.out] at k
          rw [hw9]
          exact k)
        have hown4 := BOwn.grown HO8.out hS4
        have hnb := row_in hrow4 hown4 (by decide)
        have O9 := Lib.hid (show BOwn w9 w8.heap.size aw9 Y cw9 (l.drop 26) from by
          have h := Own.ch hown4 (Ch.ofSome (S := fun x => x = bo) hg9 rfl) (fun h0 g e h => by subst h; exact hnb ⟨h0, e⟩)
          rw [List.nil_append] at h
          exact h)
        have C9 := Lib.hid (show w8.grownBy w9 (some bo) from grownBy_trans (grownBy_some (grownBy_trans G8.out hS4) _) hg9)
        clear hS4 hK4 hrow4 hc4 hf4 hw9 hg9 hown4 hnb HO8 G8
        refine ⟨by first | rfl | trivial, ?_⟩
        have HT9 := Lib.hid (HT8.out.grownNe C9.out (by have := HBO.out; omega))
        have HG9 := Lib.hid (grownBy_old HG8.out C9.out (by have := HBO.out; omega))
        have hcmp := HCMP.out
        obtain ⟨QQ, hQQ⟩ : ∃ QQ : Rq, QQ = { (⟨3, seg l 1 16, byN (l.getD 17 0), (getN l 18 4 : Nat), (getN l 22 4 : Nat), 0, 0, []⟩ : Rq) with bytes := l.drop 26 } := ⟨_, rfl⟩
        have HQ2 := Lib.hid (show QQ.ix.length = 16 by rw [hQQ]; have h := HQX.out; rw [HQ0.out.2] at h; exact h)
        have HRQ := Lib.hid (show Row w9 bo 43 (rqC QQ (.slice aw9 Y cw9)) from by
          have h := R9.out
          unfold rqG at h
          rw [HQ0.out.1, HQ0.out.2] at h
          rw [hQQ]
          unfold byN
          rw [← HP.out, ← HE.out, ← HBX.out.1]
          exact h)
        clear hcmp
        go_wp2_with (first | (refine wpList_load_row rfl 43 _ rfl bo rfl 43 (rqC QQ (.slice aw9 Y cw9)) (0, 0) _ HRQ.out Try.underlying43 rfl (by rw [size_req]; exact congrArg some (rq_len QQ _ HQ2.out).symm) ?_) | (refine wpList_putrow rfl rfl w.heap.size rfl (rqC QQ (.slice aw9 Y cw9)) rfl HT9.out (by rw [size_req]; exact congrArg some (rq_len QQ _ HQ2.out).symm) (rq_len QQ _ HQ2.out).symm (rq_one _ _ _ _) ?_; intro W5 hg5 hr5; have HG5x := Lib.hid hg5; have HR5x := Lib.hid hr5; clear hg5 hr5))
        refine bodyPost_ret (results_ctt rfl _ _ w.heap.size 43 (rqC QQ (.slice aw9 Y cw9)) (0, 0) _ _ _ rfl rfl rfl HR5x.out Try.underlying43 rfl (by rw [size_req]; exact congrArg some (rq_len QQ _ HQ2.out).symm)) rfl ?_
        rw [HD.out, if_neg (by rw [H255.out]; exact C0.out), if_neg (by rw [← HP.out]; exact C1.out), if_neg (by rw [← HE.out]; exact C2.out)]
        unfold endQ
        rw [HNN.out, if_neg (by have := HCMP.out; omega)]
        have ho5 := Own.ch O9.out (Ch.ofSome (S := fun k => k = w.heap.size) HG5x.out rfl) (fun h0 g e h => by
          have h1 := (Own.inn O9.out (g := g) ⟨h0, e⟩).1
          have h2 := HBO.out
          have h3 := HG8.out.size
          have h4 := HR8.out.lt
          omega)
        rw [hQQ]
        exact ⟨_, _, _, rfl, Own.mono ho5 HG8.out.size, grownBy_old HG9.out HG5x.out (Nat.le_refl _)⟩
      · have j1 : decide ((n : Int) < (26 : Int)) = false := decide_eq_false (by omega)
        have j2 : decide ((26 : Int) < (n : Int)) = true := decide_eq_true (by omega)
        have j1' : decide (n < 26) = false := decide_eq_false (by omega)
        have j2' : decide (26 < n) = true := decide_eq_true (by omega)
        go_upto_region 43 with fail
        go_wp2_with (first | (refine wpList_load_row rfl 43 _ rfl bn rfl 43 zRq (0, 0) _ HN8.out Try.underlying43 rfl (by rw [size_req]; rfl) ?_) | (refine wpList_putrow rfl rfl w.heap.size rfl zRq rfl HT8.out (by rw [size_req]; rfl) rfl zreq_one ?_; intro W5 hg5 hr5; have HGz := Lib.hid hg5; have HRz := Lib.hid hr5; clear hg5 hr5))
        refine bodyPost_ret (results_ctt rfl _ _ w.heap.size 43 zRq (0, 0) _ _ _ rfl rfl rfl HRz.out Try.underlying43 rfl (by rw [size_req]; rfl)) rfl ?_
        rw [HD.out, if_neg (by rw [H255.out]; exact C0.out), if_neg (by rw [← HP.out]; exact C1.out), if_neg (by rw [← HE.out]; exact C2.out)]
        unfold endQ
        rw [HNN.out, if_pos (by omega), show min n (26 + 0) = 26 by omega]
        exact reqP_err (26) _ (by omega) (grownBy_old HG8.out HGz.out (Nat.le_refl _))
end Go.Proofs.Ytkdmebcfedehiaa
/- The document's Request: kind 5. Printed by gens/wireref_x.py. -/
namespace Go.Proofs.Ytkdmebcfedehiaa
open Go.RowKit
def oLWireRefX50 : Oper := { dst := none, op := Op.store 24 (Operand.tmp 160) (Operand.tmp 159), type := 0, pos := "ref.go:168", after := #[{ on := 6, ground := Ground.data }, { on := 5, ground := Ground.data }, { on := 5, ground := Ground.chain }, { on := 0, ground := Ground.phase }, { on := 1, ground := Ground.phase }, { on := 2, ground := Ground.phase }, { on := 3, ground := Ground.phase }, { on := 4, ground := Ground.phase }, { on := 5, ground := Ground.phase }], guard := none }

set_option maxRecDepth 100000 in
set_option maxHeartbeats 8000000 in
theorem refReq_5 (a : Option Addr) (n c : Nat) (l : List UInt8) (w : World) (hl : BLies w a l) (hn : l.length = n) (hc : n ≤ c) (hnm : n ≤ 140737488355000) (b off : Nat) (ha : a = some ⟨b, off, none⟩) (h1 : 1 ≤ n) (hK : (5 : Int) = ((l.getD 0 0).toNat : Int)) :
    Calls Try.prog 37 #[.slice a n c] w fun e w' => ReqP w (decQ l) e w' := by
  have hce : ∀ W, w.grownBy W none → ∀ k, k < n → W.cell? ⟨b, off + k, none⟩ = some (.int .u8 ((l.getD k 0).toNat : Int)) := fun W hW k hk => by
    obtain ⟨b', off', e, h⟩ := bytes_cells (hl.grown hW) (by omega)
    rw [ha] at e
    injection e with e
    injection e with e1 e2
    subst e1; subst e2
    exact h k (by omega)
  have HC := Lib.hid hce
  have h00 : ((n : Int) == 0) = false := by rw [beq_eq_false_iff_ne]; omega
  have hK0 : ∀ W, w.grownBy W none → W.cell? ⟨b, off, none⟩ = some (.int .u8 5) := fun W hW => by rw [hK]; exact hce W hW 0 (by omega)
  have HK0 := Lib.hid hK0
  subst ha
  clear hce hK0
  have hk : (l.getD 0 0).toNat = 5 := by omega
  have hne : ¬ (l = [] ∨ headQ (l.getD 0 0).toNat = 0) := fun h => by
    rcases h with h | h
    · rw [h] at hn; simp at hn; omega
    · rw [hk] at h; cases h
  have HHD := Lib.hid (fun W => (refHead_n 5 W).mono (R' := fun e w' => e = .returned (.int .i64 21) ∧ W = w') (fun e w' h => h))
  by_cases hs : n < 21
  · have hd : decQ l = .error n := by
      unfold decQ
      rw [if_neg hne, hk, if_pos (show l.length < headQ 5 by rw [hn]; exact hs), hn]
    rw [hd]
    have i1 : decide ((n : Int) < (21 : Int)) = true := decide_eq_true (by omega)
    have i1' : decide (n < 21) = true := decide_eq_true (by omega)
    clear hl hn hd hK hk hne hc hs
    obtain ⟨ir, zr, hir, hirz, hirs, hz⟩ := info_req
    subst hz
    go_enter Try.func37, Try.ntmps37
    go_upto_region 1 with (refine wpList_made rfl rfl hir hirz ?_; intro w1 hs1 hg1 hr1; have HG1 := Lib.hid hg1; have HT1 := Lib.hid (show Row w1 w.heap.size 43 zRq from hr1); clear hs1 hg1 hr1)
    go_upto_region 2 with (refine wpList_made rfl rfl hir hirz ?_; intro w2 hs1 hg1 hr1; have HG2 := Lib.hid (grownBy_trans HG1.out hg1); have HT2 := Lib.hid (HT1.out.grown hg1); have HN2 := Lib.hid (show Row w2 w1.heap.size 43 zRq from hr1); clear hs1 hg1 hr1)
    obtain ⟨bn, hbn⟩ : ∃ bn, bn = w1.heap.size := ⟨_, rfl⟩
    have HBN := Lib.hid (show w.heap.size < bn ∧ bn < w2.heap.size from ⟨by rw [hbn]; exact HT1.out.lt, by rw [hbn]; exact HN2.out.lt⟩)
    rw [← hbn] at HN2 ⊢
    clear hbn HG1 HT1
    have k0 := HK0.out w2 HG2.out
    go_upto_region 6 with (first | (go_at_call 62; refine (HHD.out _).mono ?_; rintro e w' ⟨rfl, rfl⟩) )
    go_wp2_with (first | (refine wpList_load_row rfl 43 _ rfl bn rfl 43 zRq (0, 0) _ HN2.out Try.underlying43 rfl (by rw [size_req]; rfl) ?_) | (refine wpList_putrow rfl rfl w.heap.size rfl zRq rfl HT2.out (by rw [size_req]; rfl) rfl zreq_one ?_; intro W5 hg5 hr5; have HGz := Lib.hid hg5; have HRz := Lib.hid hr5; clear hg5 hr5))
    refine bodyPost_ret (results_ctt rfl _ _ w.heap.size 43 zRq (0, 0) _ _ _ rfl rfl rfl HRz.out Try.underlying43 rfl (by rw [size_req]; rfl)) rfl ?_
    exact reqP_err (n) _ (rfl) (grownBy_old HG2.out HGz.out (Nat.le_refl _))
  have hlen : 17 ≤ l.length := by omega
  have HIL := Lib.hid (fun j (hj : j ≤ 16) => ixJ_len hlen hj)
  have HIS := Lib.hid (fun j (hj : j < 16) => ixJ_set hlen hj)
  have HIA := Lib.hid (ixJ_all hlen)
  have i1 : decide ((n : Int) < (21 : Int)) = false := decide_eq_false (by omega)
  have i1' : decide (n < 21) = false := decide_eq_false (by omega)
  have HATG := Lib.hid (show ∀ W, w.grownBy W none → ∀ P K : Int, 0 ≤ P → 0 ≤ K → K ≤ 8 → P + K ≤ (n : Int) → Calls Try.prog 63 #[.slice (some ⟨b, off, none⟩) n c, .int .i64 P, .int .i64 K] W fun e w' => e = .returned (.int .u64 ((getN l P.toNat K.toNat : Nat) : Int)) ∧ W = w' from fun W hW P K h1 h2 h3 h4 => by
    have h := refAt_n (some ⟨b, off, none⟩) n c P.toNat K.toNat l W (hl.grown hW) hn (by unfold maxLen; omega) (by omega) (by omega)
    rw [Int.toNat_of_nonneg h1, Int.toNat_of_nonneg h2] at h
    exact h)
  obtain ⟨A, hA⟩ : ∃ A, A = getN l 17 4 := ⟨_, rfl⟩
  have hAlt : A < 4294967296 := by rw [hA]; exact getN_bound l 17 4
  have HRA := Lib.hid (show getN l (Int.toNat 17) (Int.toNat 4) = A from hA.symm)
  have HA := Lib.hid hA
  have HD := Lib.hid (show decQ l = endQ l 21 0 ⟨5, seg l 1 16, 0, 0, 0, getN l 17 4, 0, []⟩ from by
    unfold decQ
    rw [if_neg hne, hk, if_neg (show ¬ l.length < headQ 5 by rw [hn]; exact hs), if_neg (by decide), if_neg (by decide), if_neg (by decide), if_neg (by decide)])
  obtain ⟨BX, hBX⟩ : ∃ BX : Int, BX = ((l.getD 17 0).toNat : Int) := ⟨_, rfl⟩
  have hBXb := (l.getD 17 0).toNat_lt
  have HBX := Lib.hid (show BX = ((l.getD 17 0).toNat : Int) ∧ 0 ≤ BX ∧ BX < 256 by omega)
  have H255 := Lib.hid (show l.getD 17 0 = 255 ↔ BX = 255 from by rw [← UInt8.toNat_inj, hBX]; exact ⟨fun h => by rw [h]; rfl, fun h => by have e : (255 : UInt8).toNat = 255 := rfl; omega⟩)
  obtain ⟨Y, hY⟩ : ∃ Y, n - 21 = Y := ⟨_, rfl⟩
  have HY5 := Lib.hid (show 21 ≤ n ∧ n - 21 = Y from ⟨by omega, hY⟩)
  have hYb : Y ≤ 140737488355000 := by omega
  have HSL := Lib.hid (show ∀ W, w.grownBy W none → BLies W (midA (some ⟨b, off, none⟩) 21 c) (l.drop 21) from fun W hW => suf_lies (hl.grown hW) 21 c (by omega) (by omega))
  have HSM := Lib.hid (show (l.drop 21).length = Y by rw [List.length_drop]; omega)
  have HNN := Lib.hid hn
  have hwn : IntKind.u64.wrap (n : Int) = (n : Int) := IntWalk.u64_in _ (by omega)
  have hsn : 21 ≤ n := by omega
  have HSI := Lib.hid (show (21 : Int) ≤ (n : Int) by omega)
  clear hl hn hK hk hne hlen hBX hBXb hY hc hs hA
  obtain ⟨ir, zr, hir, hirz, hirs, hz⟩ := info_req
  subst hz
  go_enter Try.func37, Try.ntmps37
  go_upto_region 1 with (refine wpList_made rfl rfl hir hirz ?_; intro w1 hs1 hg1 hr1; have HG1 := Lib.hid hg1; have HT1 := Lib.hid (show Row w1 w.heap.size 43 zRq from hr1); clear hs1 hg1 hr1)
  go_upto_region 2 with (refine wpList_made rfl rfl hir hirz ?_; intro w2 hs1 hg1 hr1; have HG2 := Lib.hid (grownBy_trans HG1.out hg1); have HT2 := Lib.hid (HT1.out.grown hg1); have HN2 := Lib.hid (show Row w2 w1.heap.size 43 zRq from hr1); clear hs1 hg1 hr1)
  obtain ⟨bn, hbn⟩ : ∃ bn, bn = w1.heap.size := ⟨_, rfl⟩
  have HBN := Lib.hid (show w.heap.size < bn ∧ bn < w2.heap.size from ⟨by rw [hbn]; exact HT1.out.lt, by rw [hbn]; exact HN2.out.lt⟩)
  rw [← hbn] at HN2 ⊢
  clear hbn HG1 HT1
  have k0 := HK0.out w2 HG2.out
  go_upto_region 5 with (first | (go_at_call 62; refine (HHD.out _).mono ?_; rintro e w' ⟨rfl, rfl⟩) )
  go_upto_region 8 with (first
    | (refine wpList_valp rfl (run_build_req1 _ _ (.tmp 34) rfl 5 rfl) ?_)
    | (refine wpList_fresh rfl rfl rfl rfl rfl hir hirz hirs (rqC ⟨5, ixJ l 0, 0, 0, 0, 0, 0, []⟩ (.slice none 0 0)) rfl rfl (by rw [rq_len _ _ (HIL.out 0 (by omega))]; rfl) (rq_one _ _ _ _) ?_; intro w3 hs2 hg2 hr2; have HG3 := Lib.hid (grownBy_trans HG2.out hg2); have HR3 := Lib.hid (show Row w3 w2.heap.size 43 (rqC ⟨5, ixJ l 0, 0, 0, 0, 0, 0, []⟩ (.slice none 0 0)) from hr2); have HT3 := Lib.hid (HT2.out.grown hg2); have HN3 := Lib.hid (HN2.out.grown hg2); clear hs2 hg2 hr2))
  obtain ⟨bo, hbo⟩ : ∃ bo, bo = w2.heap.size := ⟨_, rfl⟩
  have HBO := Lib.hid (show w.heap.size < bn ∧ bn < bo ∧ bo < w3.heap.size from ⟨HBN.out.1, by rw [hbo]; exact HBN.out.2, by rw [hbo]; exact HR3.out.lt⟩)
  rw [← hbo] at HR3 ⊢
  clear hbo k0 HT2 HN2 HG2 HBN
  go_wp2_with fail
  go_loopw [8] (fun vi wr => ∃ j : Nat, j ≤ 16 ∧ vi = .int .i64 (j : Int) ∧ Row wr bo 43 (rqC ⟨5, ixJ l j, 0, 0, 0, 0, 0, []⟩ (.slice none 0 0)) ∧ Row wr w.heap.size 43 zRq ∧ Row wr bn 43 zRq ∧ w.grownBy wr none) (fun vi _ => 16 - (intOf vi).toNat)
  case atStart => exact ⟨0, by omega, rfl, HR3.out, HT3.out, HN3.out, HG3.out⟩
  case round =>
    obtain ⟨j, hj, rfl, hr, ht, hn2, hg⟩ := hrel
    obtain ⟨w5, rfl⟩ : ∃ w5, w5 = wr := ⟨_, rfl⟩
    have HR4 := Lib.hid hr
    have HT4 := Lib.hid ht
    have HN4 := Lib.hid hn2
    have HG4 := Lib.hid hg
    clear hr ht hn2 hg
    by_cases hlt : j < 16
    · obtain ⟨v0, x⟩ := rq_ixcell HR4.out (HIL.out j hj) j hlt
      have f := Row.frozen HR4.out (1 + j)
      have hcj := HC.out w5 HG4.out (1 + j) (by omega)
      obtain ⟨XB, hXB⟩ : ∃ XB, XB = l.getD (1 + j) 0 := ⟨_, rfl⟩
      rw [← hXB] at hcj
      have HXB := Lib.hid hXB
      clear hXB
      go_upto_region 10 with fail
      obtain ⟨w6, h⟩ : ∃ w6, w6 = w5.setCell ⟨bo, 1 + j, none⟩ (.int .u8 (XB.toNat : Int)) := ⟨_, rfl⟩
      rw [← h]
      have g : w5.grownBy w6 (some bo) := h ▸ grownBy_setCell _ _ _ _
      have HR6 := Lib.hid (show Row w6 bo 43 (rqC ⟨5, ixJ l (j + 1), 0, 0, 0, 0, 0, []⟩ (.slice none 0 0)) from by
        have k := Row.setc HR4.out (1 + j) (.int .u8 (XB.toNat : Int))
        rw [rq_ixset _ _ (HIL.out j hj) j hlt, HXB.out] at k
        rw [h, HXB.out, ← HIS.out j hlt]
        exact k)
      have HT6 := Lib.hid (HT4.out.grownNe g (by have := HBO.out; omega))
      have HN6 := Lib.hid (HN4.out.grownNe g (by have := HBO.out; omega))
      have HG6 := Lib.hid (grownBy_old HG4.out g (by have := HBO.out; omega))
      clear h g x f hcj
      go_wp2_with fail
      go_roundw
      case rel => exact ⟨j + 1, by omega, by first | rfl | go_num, HR6.out, HT6.out, HN6.out, HG6.out⟩
      case measure => simp [intOf]; omega
    · obtain rfl : j = 16 := by omega
      obtain ⟨Q0, hQ0⟩ : ∃ Q0 : Rq, Q0 = ⟨5, ixJ l 16, 0, 0, 0, 0, 0, []⟩ := ⟨_, rfl⟩
      have HQX := Lib.hid (show Q0.ix.length = 16 by rw [hQ0]; exact HIL.out 16 (by omega))
      have HQ0 := Lib.hid (show Q0.kind = 5 ∧ Q0.ix = seg l 1 16 by rw [hQ0]; exact ⟨rfl, HIA.out⟩)
      have HR5 := Lib.hid (show Row w5 bo 43 (rqG Q0 (.int .i64 0) (.int .i64 0) (.int .i64 0) (.int .u32 0) (.int .i64 0) (.slice none 0 0)) from by rw [hQ0]; exact HR4.out)
      have k1 := rq_kind HR4.out
      have HT5 := Lib.hid HT4.out
      have HN5 := Lib.hid HN4.out
      have HG5' := Lib.hid HG4.out
      have HG5 := Lib.hid HG4.out
      have b17 := fun h => HC.out w5 HG4.out 17 h
      rw [← HBX.out.1] at b17
      clear hQ0 HR4 HT4 HN4
      clear b17
      have hwA : IntKind.u32.wrap (A : Int) = (A : Int) := by show (A : Int) % 4294967296 = _; omega
      have x := rqG_cell HR5.out HQX.out 3
      have f := Row.frozen HR5.out 20
      simp at x
      go_upto_region 40 with (first | (go_at_call 63; refine (HATG.out _ HG5.out _ _ (by decide) (by decide) (by decide) (Int.le_trans (by decide) HSI.out)).mono ?_; rintro e w' ⟨rfl, rfl⟩; first | rw [HRA.out]) | fail)
      obtain ⟨w6, h⟩ : ∃ w6, w6 = w5.setCell ⟨bo, 20, none⟩ (.int .u32 (A : Int)) := ⟨_, rfl⟩
      rw [← h]
      have g : w5.grownBy w6 (some bo) := h ▸ grownBy_setCell _ _ _ _
      have HR6 := Lib.hid (show Row w6 bo 43 (rqG Q0 (.int .i64 0) (.int .i64 0) (.int .i64 0) (.int .u32 (A : Int)) (.int .i64 0) (.slice none 0 0)) from by
        have k := Row.setc HR5.out 20 (.int .u32 (A : Int))
        rw [show 20 = 17 + 3 from rfl, rqG_set _ _ _ _ _ _ _ HQX.out] at k
        rw [h]
        exact k)
      have HT6 := Lib.hid (HT5.out.grownNe g (by have := HBO.out; omega))
      have HN6 := Lib.hid (HN5.out.grownNe g (by have := HBO.out; omega))
      have HG6 := Lib.hid (grownBy_old HG5.out g (by have := HBO.out; omega))
      clear h g x f
      rcases Nat.lt_trichotomy n (21) with hcmp | hcmp | hcmp
      · exact absurd hcmp (by omega)
      · have j1 : decide ((n : Int) < (21 : Int)) = false := decide_eq_false (by omega)
        have j2 : decide ((21 : Int) < (n : Int)) = false := decide_eq_false (by omega)
        have j1' : decide (n < 21) = false := decide_eq_false (by omega)
        have j2' : decide (21 < n) = false := decide_eq_false (by omega)
        have HCMP := Lib.hid hcmp
        clear hcmp
        go_upto_region 44 with fail
        refine wp_normal ?_
        refine wp_regionX (fun u => w6.grownBy u none) 7 (by kernel_rfl) (grownBy_drewN w6 1 none) ?_
        refine wpX_take 0 (v := .pointer (some ⟨bo, 22, none⟩)) (oi := { dst := some 154, op := Op.fieldAddr 43 (Operand.tmp 7) 6, type := 0, pos := "ref.go:168", after := #[], guard := none }) (oL := oLWireRefX50) (clo_grown _) rfl rfl rfl (by kernel_rfl) (by kernel_rfl) (by kernel_rfl) (by kernel_rfl) (by kernel_rfl) (fun _ _ _ h => by cases h.1) (YG.val (by rfl) (fun _ _ => by go_simp)) ?_
        simp only [Act.put, List.setIfInBounds_toArray, List.set_cons_zero, List.set_cons_succ]
        refine wpX_take 1 (v := .slice none 0 0) (oi := { dst := some 155, op := Op.load 24 (Operand.tmp 154), type := 24, pos := "ref.go:168", after := #[{ on := 0, ground := Ground.data }], guard := none }) (oL := oLWireRefX50) (clo_grown _) rfl rfl rfl (by kernel_rfl) (by kernel_rfl) (by kernel_rfl) (by kernel_rfl) (by kernel_rfl) (fun _ _ _ h => by cases h.1) (YG.val (by rfl) (fun u hu => by have c := rqG_cell (HR6.out.grown hu) HQX.out 5; simp at c; go_simp)) ?_
        simp only [Act.put, List.setIfInBounds_toArray, List.set_cons_zero, List.set_cons_succ]
        refine wpX_take 2 (v := .slice (some ⟨b, off, none⟩) n c) (oi := { dst := some 156, op := Op.move (Operand.tmp 0), type := 24, pos := "ref.go:168", after := #[], guard := none }) (oL := oLWireRefX50) (clo_grown _) rfl rfl rfl (by kernel_rfl) (by kernel_rfl) (by kernel_rfl) (by kernel_rfl) (by kernel_rfl) (fun _ _ _ h => by cases h.1) (YG.val (by rfl) (fun _ _ => by go_simp)) ?_
        simp only [Act.put, List.setIfInBounds_toArray, List.set_cons_zero, List.set_cons_succ]
        refine wpX_take 3 (v := .int .i64 21) (oi := { dst := some 157, op := Op.move (Operand.tmp 6), type := 3, pos := "ref.go:168", after := #[], guard := none }) (oL := oLWireRefX50) (clo_grown _) rfl rfl rfl (by kernel_rfl) (by kernel_rfl) (by kernel_rfl) (by kernel_rfl) (by kernel_rfl) (fun _ _ _ h => by cases h.1) (YG.val (by rfl) (fun _ _ => by go_simp)) ?_
        simp only [Act.put, List.setIfInBounds_toArray, List.set_cons_zero, List.set_cons_succ]
        refine wpX_take 4 (v := .slice (midA (some ⟨b, off, none⟩) 21 c) Y (c - 21)) (oi := { dst := some 158, op := Op.slice 24 (Operand.tmp 156) (some (Operand.tmp 157)) none none, type := 24, pos := "ref.go:168", after := #[{ on := 2, ground := Ground.data }, { on := 3, ground := Ground.data }], guard := none }) (oL := oLWireRefX50) (clo_grown _) rfl rfl rfl (by kernel_rfl) (by kernel_rfl) (by kernel_rfl) (by kernel_rfl) (by kernel_rfl) (fun _ _ _ h => by cases h.1) (YG.val (by rfl) (fun u hu => run_suf_op3 u _ (.tmp 156) _ rfl (some ⟨b, off, none⟩) n c 21 Y rfl rfl HY5.out.1 HY5.out.2)) ?_
        simp only [Act.put, List.setIfInBounds_toArray, List.set_cons_zero, List.set_cons_succ]
        refine wpX_step 5 (o := { dst := some 159, op := Op.call { callee := Callee.builtin Builtin.append, args := #[Operand.tmp 155, Operand.tmp 158], argTypes := #[24, 24] }, type := 24, pos := "ref.go:168", after := #[{ on := 1, ground := Ground.data }, { on := 4, ground := Ground.data }], guard := none }) rfl rfl (by kernel_rfl) (by rfl) (fun u2 hS2 K hK => ?_)
        have HKK := Lib.hid hK
        have HS2 := Lib.hid hS2
        clear hK hS2
        obtain ⟨aw9, cw9, wx8, hrun, ho8, hc8, hi8⟩ := run_appBL u2 (base := w6.heap.size) (a := none) (n := 0) (c := 0) (l := []) (Own.nil _ _ _ _ _) (midA (some ⟨b, off, none⟩) 21 c) Y (c - 21) (l.drop 21) (HSL.out u2 (grownBy_trans HG6.out HS2.out)) HSM.out (by omega) HS2.out.size 24
        rw [Nat.zero_add] at hrun ho8
        have g8 : u2.grownBy wx8 none := Ch.fresh (World.grownBy.refl u2 none) hc8 (fun g _ h => by have := h.1; omega)
        have HO8 := Lib.hid ho8
        have G8 := Lib.hid (grownBy_trans HS2.out g8)
        refine wp_val_op (v := .slice aw9 Y cw9) (w1 := wx8) (run_app_op u2 wx8 _ (.tmp 155) (.tmp 158) rfl _ hrun) ?_
        refine HKK.out (fun u => wx8.grownBy u none) _ _ (World.grownBy.refl _ _) (fun u h => grownBy_trans G8.out h) (clo_grown wx8) ?_
        simp only [Act.put, List.setIfInBounds_toArray, List.set_cons_zero, List.set_cons_succ]
        clear HKK HS2 hrun ho8 hc8 hi8 g8
        refine wpX_take 6 (v := .pointer (some ⟨bo, 22, none⟩)) (oi := { dst := some 160, op := Op.fieldAddr 43 (Operand.tmp 7) 6, type := 0, pos := "ref.go:168", after := #[{ on := 0, ground := Ground.phase }, { on := 1, ground := Ground.phase }, { on := 2, ground := Ground.phase }, { on := 3, ground := Ground.phase }, { on := 4, ground := Ground.phase }, { on := 5, ground := Ground.phase }], guard := none }) (oL := oLWireRefX50) (clo_grown _) rfl rfl rfl (by kernel_rfl) (by kernel_rfl) (by kernel_rfl) (by kernel_rfl) (by kernel_rfl) (fun _ _ _ h => by cases h.1) (YG.val (by rfl) (fun _ _ => by go_simp)) ?_
        simp only [Act.put, List.setIfInBounds_toArray, List.set_cons_zero, List.set_cons_succ]
        refine wpX_last (oL := { dst := none, op := Op.store 24 (Operand.tmp 160) (Operand.tmp 159), type := 0, pos := "ref.go:168", after := #[{ on := 6, ground := Ground.data }, { on := 5, ground := Ground.data }, { on := 5, ground := Ground.chain }, { on := 0, ground := Ground.phase }, { on := 1, ground := Ground.phase }, { on := 2, ground := Ground.phase }, { on := 3, ground := Ground.phase }, { on := 4, ground := Ground.phase }, { on := 5, ground := Ground.phase }], guard := none }) rfl (by kernel_rfl) (by kernel_rfl) (by rfl) (fun u4 hS4 K4 hK4 => ?_)
        have hrow4 := HR6.out.grown (grownBy_trans G8.out hS4)
        have hc4 := rqG_cell hrow4 HQX.out 5
        have hf4 := Row.frozen hrow4 22
        simp at hc4
        refine wp_skip_op (w1 := u4.setCell ⟨bo, 22, none⟩ (.slice aw9 Y cw9)) (by go_simp) (hK4 _ _ ?_)
        simp only [Act.put]
        obtain ⟨w9, hw9⟩ : ∃ w9, w9 = u4.setCell ⟨bo, 22, none⟩ (.slice aw9 Y cw9) := ⟨_, rfl⟩
        rw [← hw9]
        have hg9 : u4.grownBy w9 (some bo) := hw9 ▸ grownBy_setCell _ _ _ _
        have R9 := Lib.hid (show Row w9 bo 43 (rqG Q0 (.int .i64 0) (.int .i64 0) (.int .i64 0) (.int .u32 (A : Int)) (.int .i64 0) (.slice aw9 Y cw9)) from by
          have k := Row.setc hrow4 22 (.slice aw9 Y cw9)
          rw [show 22 = 17 + 5 from rfl, rqG_set _ _ _ _ _ _ _ HQX.out] at k
          rw [hw9]
          exact k)
        have hown4 := BOwn.grown HO8.out hS4
        have hnb := row_in hrow4 hown4 (by decide)
        have O9 := Lib.hid (show BOwn w9 w6.heap.size aw9 Y cw9 (l.drop 21) from by
          have h := Own.ch hown4 (Ch.ofSome (S := fun x => x = bo) hg9 rfl) (fun h0 g e h => by subst h; exact hnb ⟨h0, e⟩)
          rw [List.nil_append] at h
          exact h)
        have C9 := Lib.hid (show w6.grownBy w9 (some bo) from grownBy_trans (grownBy_some (grownBy_trans G8.out hS4) _) hg9)
        clear hS4 hK4 hrow4 hc4 hf4 hw9 hg9 hown4 hnb HO8 G8
        refine ⟨by first | rfl | trivial, ?_⟩
        have HT9 := Lib.hid (HT6.out.grownNe C9.out (by have := HBO.out; omega))
        have HG9 := Lib.hid (grownBy_old HG6.out C9.out (by have := HBO.out; omega))
        have hcmp := HCMP.out
        obtain ⟨QQ, hQQ⟩ : ∃ QQ : Rq, QQ = { (⟨5, seg l 1 16, 0, 0, 0, getN l 17 4, 0, []⟩ : Rq) with bytes := l.drop 21 } := ⟨_, rfl⟩
        have HQ2 := Lib.hid (show QQ.ix.length = 16 by rw [hQQ]; have h := HQX.out; rw [HQ0.out.2] at h; exact h)
        have HRQ := Lib.hid (show Row w9 bo 43 (rqC QQ (.slice aw9 Y cw9)) from by
          have h := R9.out
          unfold rqG at h
          rw [HQ0.out.1, HQ0.out.2] at h
          rw [hQQ]
          rw [← HA.out]
          exact h)
        clear hcmp
        go_wp2_with (first | (refine wpList_load_row rfl 43 _ rfl bo rfl 43 (rqC QQ (.slice aw9 Y cw9)) (0, 0) _ HRQ.out Try.underlying43 rfl (by rw [size_req]; exact congrArg some (rq_len QQ _ HQ2.out).symm) ?_) | (refine wpList_putrow rfl rfl w.heap.size rfl (rqC QQ (.slice aw9 Y cw9)) rfl HT9.out (by rw [size_req]; exact congrArg some (rq_len QQ _ HQ2.out).symm) (rq_len QQ _ HQ2.out).symm (rq_one _ _ _ _) ?_; intro W5 hg5 hr5; have HG5x := Lib.hid hg5; have HR5x := Lib.hid hr5; clear hg5 hr5))
        refine bodyPost_ret (results_ctt rfl _ _ w.heap.size 43 (rqC QQ (.slice aw9 Y cw9)) (0, 0) _ _ _ rfl rfl rfl HR5x.out Try.underlying43 rfl (by rw [size_req]; exact congrArg some (rq_len QQ _ HQ2.out).symm)) rfl ?_
        rw [HD.out]
        unfold endQ
        rw [HNN.out, if_neg (by have := HCMP.out; omega)]
        have ho5 := Own.ch O9.out (Ch.ofSome (S := fun k => k = w.heap.size) HG5x.out rfl) (fun h0 g e h => by
          have h1 := (Own.inn O9.out (g := g) ⟨h0, e⟩).1
          have h2 := HBO.out
          have h3 := HG6.out.size
          have h4 := HR6.out.lt
          omega)
        rw [hQQ]
        exact ⟨_, _, _, rfl, Own.mono ho5 HG6.out.size, grownBy_old HG9.out HG5x.out (Nat.le_refl _)⟩
      · have j1 : decide ((n : Int) < (21 : Int)) = false := decide_eq_false (by omega)
        have j2 : decide ((21 : Int) < (n : Int)) = true := decide_eq_true (by omega)
        have j1' : decide (n < 21) = false := decide_eq_false (by omega)
        have j2' : decide (21 < n) = true := decide_eq_true (by omega)
        go_upto_region 43 with fail
        go_wp2_with (first | (refine wpList_load_row rfl 43 _ rfl bn rfl 43 zRq (0, 0) _ HN6.out Try.underlying43 rfl (by rw [size_req]; rfl) ?_) | (refine wpList_putrow rfl rfl w.heap.size rfl zRq rfl HT6.out (by rw [size_req]; rfl) rfl zreq_one ?_; intro W5 hg5 hr5; have HGz := Lib.hid hg5; have HRz := Lib.hid hr5; clear hg5 hr5))
        refine bodyPost_ret (results_ctt rfl _ _ w.heap.size 43 zRq (0, 0) _ _ _ rfl rfl rfl HRz.out Try.underlying43 rfl (by rw [size_req]; rfl)) rfl ?_
        rw [HD.out]
        unfold endQ
        rw [HNN.out, if_pos (by omega), show min n (21 + 0) = 21 by omega]
        exact reqP_err (21) _ (by omega) (grownBy_old HG6.out HGz.out (Nat.le_refl _))
end Go.Proofs.Ytkdmebcfedehiaa
