/- Helpers and contracts of the proofs over this seat: WireRepH, WireRepI, WireTellsL. Each states what a function of the program answers, or is plain Lean; its conditions stand in each statement. -/
import Derived.Test.YtkdmebcfedehiaaPtAA
import Derived.Test.YtkdmebcfedehiaaPtAB
import Derived.Test.YtkdmebcfedehiaaPtAC
set_option linter.unusedVariables false
/- wire.Reply: numbers; and of all bytes. Printed by gens/wirereply.py. -/
namespace Go.Proofs.Ytkdmebcfedehiaa
open Go.RowKit

theorem decR_1 {l : List UInt8} (hk : ((l.getD 0 0).toNat : Int) = 1) (h2 : 2 ≤ l.length) : decR l = (if firstBad ((l.drop 2).take (l.getD 1 0).toNat) < ((l.drop 2).take (l.getD 1 0).toNat).length then .error (2 + firstBad ((l.drop 2).take (l.getD 1 0).toNat)) else if l.length ≠ 2 + (l.getD 1 0).toNat then .error (min l.length (2 + (l.getD 1 0).toNat)) else .ok ⟨1, (l.drop 2).map byN, []⟩) := by
  unfold decR
  rw [if_neg (fun h => by
    rcases h with h | h
    · rw [h] at h2; simp at h2
    · omega), if_pos (by omega), if_neg (by omega)]
theorem getD_tk {l : List UInt8} {M j : Nat} (h : j < ((l.drop 2).take M).length) : ((l.drop 2).take M).getD j 0 = l.getD (2 + j) 0 := by
  rw [List.length_take, List.length_drop] at h
  rw [List.getD_eq_getElem?_getD, List.getD_eq_getElem?_getD, List.getElem?_take, if_pos (by omega), List.getElem?_drop]

set_option maxRecDepth 100000 in
set_option maxHeartbeats 4000000 in
theorem reply_1a (a : Option Addr) (n c : Nat) (l : List UInt8) (w : World) (hl : BLies w a l) (hn : l.length = n) (hnm : n ≤ 140737488355328) (hc : n ≤ c) (b off : Nat) (ha : a = some ⟨b, off, none⟩) (hK : (1 : Int) = ((l.getD 0 0).toNat : Int)) (h1 : 1 ≤ n) (hs : n < 2) :
    Calls Try.prog 10 #[.slice a n c] w fun e w' => RepP w (decR l) e w' := by
  have hne : ¬ (l = [] ∨ (l.getD 0 0).toNat < 1 ∨ 7 < (l.getD 0 0).toNat) := fun h => by
    rcases h with h | h
    · rw [h] at hn; simp at hn; omega
    · omega
  have hce : ∀ W, w.grownBy W none → ∀ k, k < n → W.cell? ⟨b, off + k, none⟩ = some (.int .u8 ((l.getD k 0).toNat : Int)) := fun W hW k hk => by
    obtain ⟨b', off', e, h⟩ := bytes_cells (hl.grown hW) (by omega)
    rw [ha] at e
    injection e with e
    injection e with e1 e2
    subst e1; subst e2
    exact h k (by omega)
  have HC := Lib.hid hce
  have h00 : ((n : Int) == 0) = false := by rw [beq_eq_false_iff_ne]; omega
  have hK0 : ∀ W, w.grownBy W none → W.cell? ⟨b, off, none⟩ = some (.int .u8 1) := fun W hW => by rw [hK]; exact hce W hW 0 (by omega)
  have HK0 := Lib.hid hK0
  subst ha
  clear hce hK0
  have hd : decR l = .error n := by unfold decR; rw [if_neg hne, if_pos (by omega), if_pos (by omega), hn]
  rw [hd]
  have e5 : decide ((n : Int) < 2) = true := decide_eq_true (by omega)
  have e52 : decide (n < 2) = true := decide_eq_true hs
  clear hl hn hd hK hne hc hs
  obtain ⟨ir, zr, hir, hirz, hirs, hz⟩ := info_rep
  subst hz
  go_enter Try.func10, Try.ntmps10
  go_upto_region 4 with (refine wpList_made rfl rfl hir hirz ?_; intro w1 hs1 hg1 hr1; have HS1 := Lib.hid hs1; have HG1 := Lib.hid hg1; have HR1 := Lib.hid (show Row w1 w.heap.size 26 #[.int .u8 0, .slice none 0 0, .slice none 0 0] from hr1); clear hs1 hg1 hr1)
  have k0 := HK0.out w1 HG1.out
  go_upto_region 5 with (refine wpList_fresh rfl rfl rfl rfl rfl hir hirz hirs #[.int .u8 1, .slice none 0 0, .slice none 0 0] rfl rfl rfl (by simp [Value.oneCell']) ?_; intro w2 hs2 hg2 hr2; have HS2 := Lib.hid hs2; have HG2 := Lib.hid (grownBy_trans HG1.out hg2); have HR2 := Lib.hid hr2; have HT2 := Lib.hid (HR1.out.grown hg2); have d0 := Row.cell hr2 0; simp at d0; clear k0 hs2 hg2 hr2)
  go_wp2_with fail
  refine (fail_n (n : Int) w2).mono ?_
  rintro e wf ⟨rfl, gf⟩
  have HTf := Lib.hid (HT2.out.grown gf)
  have HGf := Lib.hid (grownBy_trans HG2.out gf)
  clear gf
  go_wp2_with (refine wpList_putrow rfl rfl w.heap.size rfl #[.int .u8 0, .slice none 0 0, .slice none 0 0] rfl HTf.out (by kernel_rfl) rfl (by simp [Value.oneCell']) ?_; intro W5 hg5 hr5; have HG5 := Lib.hid hg5; have HR5 := Lib.hid hr5; clear hg5 hr5)
  refine bodyPost_ret (results_ctt rfl _ _ w.heap.size 26 #[.int .u8 0, .slice none 0 0, .slice none 0 0] (0, 0) _ _ _ rfl rfl rfl HR5.out Try.underlying26 rfl (by kernel_rfl)) rfl ?_
  exact repP_err (n) _ (rfl) (grownBy_old HGf.out HG5.out (Nat.le_refl _))
set_option maxRecDepth 100000 in
set_option maxHeartbeats 4000000 in
theorem reply_1b (a : Option Addr) (n c : Nat) (l : List UInt8) (w : World) (hl : BLies w a l) (hn : l.length = n) (hnm : n ≤ 140737488355328) (hc : n ≤ c) (b off : Nat) (ha : a = some ⟨b, off, none⟩) (hK : (1 : Int) = ((l.getD 0 0).toNat : Int)) (h1 : 1 ≤ n) (hs : 2 ≤ n) (hnM : n < 2 + (l.getD 1 0).toNat) :
    Calls Try.prog 10 #[.slice a n c] w fun e w' => RepP w (decR l) e w' := by
  have HD := Lib.hid (decR_1 hK.symm (by omega))
  have hce : ∀ W, w.grownBy W none → ∀ k, k < n → W.cell? ⟨b, off + k, none⟩ = some (.int .u8 ((l.getD k 0).toNat : Int)) := fun W hW k hk => by
    obtain ⟨b', off', e, h⟩ := bytes_cells (hl.grown hW) (by omega)
    rw [ha] at e
    injection e with e
    injection e with e1 e2
    subst e1; subst e2
    exact h k (by omega)
  have HC := Lib.hid hce
  have h00 : ((n : Int) == 0) = false := by rw [beq_eq_false_iff_ne]; omega
  have hK0 : ∀ W, w.grownBy W none → W.cell? ⟨b, off, none⟩ = some (.int .u8 1) := fun W hW => by rw [hK]; exact hce W hW 0 (by omega)
  have HK0 := Lib.hid hK0
  subst ha
  clear hce hK0
  obtain ⟨M, hM⟩ : ∃ M, M = (l.getD 1 0).toNat := ⟨_, rfl⟩
  obtain ⟨T, hT⟩ : ∃ T, T = (l.drop 2).take (l.getD 1 0).toNat := ⟨_, rfl⟩
  rw [← hT] at HD
  rw [← hM] at hT hnM
  have hMb : M ≤ 255 := by have := (l.getD 1 0).toNat_lt; omega
  obtain ⟨R, hR⟩ : ∃ R, R = min n (2 + M) := ⟨_, rfl⟩
  obtain ⟨q, hq⟩ : ∃ q, q = R - 2 := ⟨_, rfl⟩
  have HTL := Lib.hid (show T.length = q by rw [hT, List.length_take, List.length_drop]; omega)
  have HRq := Lib.hid (show n - 2 = q by omega)
  have HR2' := Lib.hid (show n ≤ c by omega)
  have hqb : q ≤ 255 := by omega
  have HQB := Lib.hid hqb
  have hqn : q + 2 ≤ n := by omega
  have HQ := Lib.hid hqn
  have HNM := Lib.hid hnM
  have HMM := Lib.hid hM
  have HTT := Lib.hid hT
  have HNN := Lib.hid hn
  have hmin : decide (2 + (M : Int) < (n : Int)) = false := decide_eq_false (by omega)
  have hmin2 : decide (2 + M < n) = false := decide_eq_false (by omega)
  have hif : (if 2 + (M : Int) < (n : Int) then 2 + (M : Int) else (n : Int)) = (n : Int) := by split <;> omega
  obtain ⟨A, hA⟩ : ∃ A, A = midA (some ⟨b, off, none⟩) 2 c := ⟨_, rfl⟩
  have HA := Lib.hid (show ∀ W, w.grownBy W none → BLies W A T from fun W hW => by
    have h := mid_lies (hl.grown hW) 2 q c (by omega) (by omega)
    rw [hA]
    have e : (l.drop 2).take q = T := by
      rw [hT]
      by_cases h2 : n ≤ 2 + M
      · rw [List.take_of_length_le (by rw [List.length_drop]; omega), List.take_of_length_le (by rw [List.length_drop]; omega)]
      · rw [show q = M by omega]
    rw [e] at h
    exact h)
  have HAA := Lib.hid hA
  have HM1 := Lib.hid (show ∀ W, w.grownBy W none → W.cell? ⟨b, off + 1, none⟩ = some (.int .u8 (M : Int)) from fun W hW => by rw [hM]; exact HC.out W hW 1 (by omega))
  have e5 : decide ((n : Int) < 2) = false := decide_eq_false (by omega)
  have e52 : decide (n < 2) = false := decide_eq_false (by omega)
  have eM : decide ((255 : Int) < (M : Int)) = false := decide_eq_false (by omega)
  have eM2 : decide (255 < M) = false := decide_eq_false (by omega)
  have hwM : IntKind.i64.wrap (M : Int) = (M : Int) := IntWalk.i64_in _ (by omega)
  clear hl hn hK hc hM hT hR hq hA hnM
  obtain ⟨ir, zr, hir, hirz, hirs, hz⟩ := info_rep
  subst hz
  go_enter Try.func10, Try.ntmps10
  go_upto_region 4 with (refine wpList_made rfl rfl hir hirz ?_; intro w1 hs1 hg1 hr1; have HS1 := Lib.hid hs1; have HG1 := Lib.hid hg1; have HR1 := Lib.hid (show Row w1 w.heap.size 26 #[.int .u8 0, .slice none 0 0, .slice none 0 0] from hr1); clear hs1 hg1 hr1)
  have k0 := HK0.out w1 HG1.out
  go_upto_region 5 with (refine wpList_fresh rfl rfl rfl rfl rfl hir hirz hirs #[.int .u8 1, .slice none 0 0, .slice none 0 0] rfl rfl rfl (by simp [Value.oneCell']) ?_; intro w2 hs2 hg2 hr2; have HS2 := Lib.hid hs2; have HG2 := Lib.hid (grownBy_trans HG1.out hg2); have HR2 := Lib.hid hr2; have HT2 := Lib.hid (HR1.out.grown hg2); have d0 := Row.cell hr2 0; simp at d0; clear k0 hs2 hg2 hr2)
  go_upto_region 11 with fail
  have hm1 := HM1.out w2 HG2.out
  go_quiet (fail)
  obtain ⟨w3, h3⟩ : ∃ w3, w3 = w2.drewN nq := ⟨_, rfl⟩
  rw [← h3]
  have hg3 : w2.grownBy w3 none := h3 ▸ grownBy_drewN _ _ _
  have HG3 := Lib.hid (grownBy_trans HG2.out hg3)
  have HR3 := Lib.hid (HR2.out.grown hg3)
  have HT3 := Lib.hid (HT2.out.grown hg3)
  clear h3 hg3 d0 hm1 hwM
  obtain ⟨B, hB⟩ : ∃ B, B = w3.heap.size := ⟨_, rfl⟩
  obtain ⟨bo, hbo⟩ : ∃ bo, bo = w1.heap.size := ⟨_, rfl⟩
  rw [← hbo] at HR3 ⊢
  have HBB := Lib.hid (show w.heap.size < bo ∧ bo < B from ⟨by rw [hbo]; exact HR1.out.lt, by rw [hB]; exact HR3.out.lt⟩)
  have HBZ := Lib.hid (show B ≤ w3.heap.size by omega)
  clear hB hbo
  go_wp2_with (refine wpList_valp rfl (run_mid_op3 _ _ (.tmp 64) (.tmp 65) (.tmp 71) rfl (some ⟨b, off, none⟩) n c 2 n q rfl rfl rfl (by omega) HR2'.out HRq.out) ?_; rw [← HAA.out])
  clear hmin hmin2 hif e5 e52 eM eM2
  go_loopw [74] (fun vi wr => ∃ (j : Nat) (an : Option Addr) (cn : Nat), j ≤ q ∧ vi = .int .i64 (j : Int) ∧ Row wr bo 26 #[.int .u8 1, .slice an j cn, .slice none 0 0] ∧ IOwn wr B an j cn ((T.take j).map byN) ∧ Row wr w.heap.size 26 #[.int .u8 0, .slice none 0 0, .slice none 0 0] ∧ w.grownBy wr none ∧ B ≤ wr.heap.size ∧ ∀ i, i < j → okN T i = true) (fun vi _ => q - (intOf vi).toNat)
  case atStart => exact ⟨0, none, 0, by omega, rfl, HR3.out, Own.nil _ _ _ _ _, HT3.out, HG3.out, HBZ.out, fun i h => absurd h (by omega)⟩
  case round =>
    obtain ⟨j, an, cn, hj, rfl, hr, ho, ht, hg, hz, hok⟩ := hrel
    have HR := Lib.hid hr
    have HO := Lib.hid ho
    have HT := Lib.hid ht
    have HG := Lib.hid hg
    have HZ := Lib.hid hz
    have HOK := Lib.hid hok
    clear hr ho ht hg hz hok
    by_cases hlt : j < q
    · obtain ⟨b2, off2, rfl, hc2⟩ := bytes_cells (HA.out wr HG.out) (by have := HTL.out; omega)
      have hjl : j < T.length := by have := HTL.out; omega
      have hcj := hc2 j hjl
      obtain ⟨x, hx⟩ : ∃ x, x = T.getD j 0 := ⟨_, rfl⟩
      rw [← hx] at hcj
      have hxb := x.toNat_lt
      obtain ⟨X, hX⟩ : ∃ X : Int, X = (x.toNat : Int) := ⟨_, rfl⟩
      rw [← hX] at hcj
      have hX0 : 0 ≤ X ∧ X ≤ 255 := by omega
      have HX0 := Lib.hid hX0
      have hwX : IntKind.i64.wrap X = X := IntWalk.i64_in _ (by omega)
      have hoj : okN T j = (decide (X ≠ 255) && (decide (j = 0) || decide ((T.getD (j - 1) 0).toNat < x.toNat))) := by
        unfold okN
        rw [← hx]
        have h255 : x = 255 ↔ X = 255 := by rw [← UInt8.toNat_inj, hX]; exact ⟨fun h => by rw [h]; rfl, fun h => by have e : (255 : UInt8).toNat = 255 := rfl; omega⟩
        congr 1
        exact decide_eq_decide.2 (not_congr h255)
      have HOJ := Lib.hid hoj
      have HXX := Lib.hid hX
      have HXT := Lib.hid hx
      clear hc2 hoj hx hX hxb hX0
      by_cases hx5 : X = 255
      · subst hx5
        have hbad : firstBad T = j := firstBad_at hjl HOK.out (by rw [HOJ.out]; rfl)
        go_upto_region 18 with (go_at_call 26; refine (number_n 255 _).mono ?_; rintro e w' ⟨rfl, rfl⟩)
        go_wp2_with fail
        refine (fail_n (2 + (j : Int)) wr).mono ?_
        rintro e wf ⟨rfl, gf⟩
        have HTf := Lib.hid (HT.out.grown gf)
        have HGf := Lib.hid (grownBy_trans HG.out gf)
        clear gf
        go_wp2_with (refine wpList_putrow rfl rfl w.heap.size rfl #[.int .u8 0, .slice none 0 0, .slice none 0 0] rfl HTf.out (by kernel_rfl) rfl (by simp [Value.oneCell']) ?_; intro W5 hg5 hr5; have HG5 := Lib.hid hg5; have HR5 := Lib.hid hr5; clear hg5 hr5)
        refine bodyPost_ret (results_ctt rfl _ _ w.heap.size 26 #[.int .u8 0, .slice none 0 0, .slice none 0 0] (0, 0) _ _ _ rfl rfl rfl HR5.out Try.underlying26 rfl (by kernel_rfl)) rfl ?_
        rw [HD.out, if_pos (by rw [hbad]; exact hjl), hbad]
        exact repP_err (2 + j) _ (by omega) (grownBy_old HGf.out HG5.out (Nat.le_refl _))
      · have hnum : (decide (0 ≤ X) && decide (X < 255)) = true := by have := HX0.out; rw [decide_eq_true (by omega), decide_eq_true (by omega)]; rfl
        by_cases hj0 : j = 0
        · subst hj0
          have hok0 : okN T 0 = true := by rw [HOJ.out, decide_eq_true hx5]; rfl
          have HK0' := Lib.hid hok0
          clear hok0
          simp only [Nat.add_zero] at hcj
          go_upto_region 19 with (go_at_call 26; refine (number_n X _).mono ?_; rintro e w' ⟨rfl, rfl⟩; rw [hnum])
          have d1 := Row.cell HR.out 1
          simp at d1
          go_wp2_with (at_builtin; refine wpList_push elI rfl (.tmp 107) (.tmp 110) rfl rfl HO.out (.int .i64 X) rfl rfl (by unfold maxLen; have := HQB.out; omega) (by have := HQB.out; omega) HZ.out ?_; intro g5 cap5 w5 hown5 hgr5; have HO5 := Lib.hid hown5; have HCH := Lib.hid hgr5.ch; have HIN5 := Lib.hid (fun (y : Nat) (h : In an cn y) => (Own.inn HO.out h).1); have HR5 := Lib.hid (Row.ch HR.out hgr5.ch (fun h => by have := (Own.inn HO.out h).1; have := HBB.out; omega)); have e1 := Row.cell HR5.out 1; have f1 := Row.frozen HR5.out 1; simp at e1; clear hown5 hgr5 d1)
          obtain ⟨W4, hW4⟩ : ∃ W4, W4 = w5.setCell ⟨bo, 1, none⟩ (.slice (some ⟨g5, 0, none⟩) 1 cap5) := ⟨_, rfl⟩
          rw [← hW4]
          have hg4 : w5.grownBy W4 (some bo) := hW4 ▸ grownBy_setCell _ _ _ _
          have HR6 := Lib.hid (show Row W4 bo 26 #[.int .u8 1, .slice (some ⟨g5, 0, none⟩) 1 cap5, .slice none 0 0] from hW4 ▸ Row.setc HR5.out 1 _)
          have HO6 := Lib.hid (show Own W4 B 3 1 (some ⟨g5, 0, none⟩) 1 cap5 _ from Own.ch HO5.out (Ch.ofSome (S := fun k => k = bo) hg4 rfl) (fun h0 g e h => by
            have := (Own.inn HO5.out (g := g) ⟨h0, e⟩).1
            have := HBB.out
            omega))
          have HT6 := Lib.hid ((Row.ch HT.out HCH.out (fun h => by have := HIN5.out _ h; have := HBB.out; omega)).grownNe hg4 (by have := HBB.out; omega))
          have HG6 := Lib.hid (grownBy_old (Ch.fresh HG.out HCH.out (fun g hg h => by have := HIN5.out _ h; have := HBB.out; omega)) hg4 (by have := HBB.out; omega))
          have HZ6 := Lib.hid (Nat.le_trans HZ.out (Nat.le_trans HCH.out.size hg4.size))
          clear hW4 hg4 e1 f1
          go_roundw
          case rel =>
            refine ⟨1, _, _, by omega, by first | rfl | go_num, HR6.out, ?_, HT6.out, HG6.out, HZ6.out, fun i hi => ?_⟩
            · have h := HO6.out
              have e : (T.take (1)).map byN = (T.take (0)).map byN ++ [X] := by
                rw [show 1 = 0 + 1 from rfl, List.take_succ_eq_append_getElem hjl, List.map_append, List.map_singleton]
                congr 2
                rw [HXX.out, HXT.out, List.getD_eq_getElem?_getD, List.getElem?_eq_getElem hjl]
                rfl
              rw [e]
              unfold IOwn IV
              rw [List.map_append]
              exact h
            · by_cases e : i = 0
              · rw [e]; exact HK0'.out
              · exact HOK.out i (by omega)
          case measure => simp [intOf]; omega
        · have hj1 : decide (0 < j) = true := decide_eq_true (by omega)
          have hj2 : decide ((0 : Int) < (j : Int)) = true := decide_eq_true (by omega)
          obtain ⟨Y, hY⟩ : ∃ Y : Int, Y = ((T.getD (j - 1) 0).toNat : Int) := ⟨_, rfl⟩
          have hcp : wr.cell? ⟨b, off + (1 + j), none⟩ = some (.int .u8 Y) := by
            have h := HC.out wr HG.out (1 + j) (by have := HQ.out; omega)
            have e : T.getD (j - 1) 0 = l.getD (1 + j) 0 := by
              rw [HTT.out, getD_tk (by rw [← HTT.out]; omega)]
              congr 1
              omega
            rw [hY, e]
            exact h
          have hjm : ((1 + j : Nat) : Int) = 2 + (j : Int) - 1 := by omega
          by_cases hxy : Y < X
          · have hd : decide (X ≤ Y) = false := decide_eq_false (by omega)
            have hokj : okN T j = true := by
              rw [HOJ.out, decide_eq_true hx5, decide_eq_true (show (T.getD (j - 1) 0).toNat < x.toNat by have := HXX.out; omega)]
              simp
            have HK0' := Lib.hid hokj
            clear hokj hY
            go_upto_region 19 with (go_at_call 26; refine (number_n X _).mono ?_; rintro e w' ⟨rfl, rfl⟩; rw [hnum])
            have d1 := Row.cell HR.out 1
            simp at d1
            go_wp2_with (at_builtin; refine wpList_push elI rfl (.tmp 107) (.tmp 110) rfl rfl HO.out (.int .i64 X) rfl rfl (by unfold maxLen; have := HQB.out; omega) (by have := HQB.out; omega) HZ.out ?_; intro g5 cap5 w5 hown5 hgr5; have HO5 := Lib.hid hown5; have HCH := Lib.hid hgr5.ch; have HIN5 := Lib.hid (fun (y : Nat) (h : In an cn y) => (Own.inn HO.out h).1); have HR5 := Lib.hid (Row.ch HR.out hgr5.ch (fun h => by have := (Own.inn HO.out h).1; have := HBB.out; omega)); have e1 := Row.cell HR5.out 1; have f1 := Row.frozen HR5.out 1; simp at e1; clear hown5 hgr5 d1)
            obtain ⟨W4, hW4⟩ : ∃ W4, W4 = w5.setCell ⟨bo, 1, none⟩ (.slice (some ⟨g5, 0, none⟩) (j + 1) cap5) := ⟨_, rfl⟩
            rw [← hW4]
            have hg4 : w5.grownBy W4 (some bo) := hW4 ▸ grownBy_setCell _ _ _ _
            have HR6 := Lib.hid (show Row W4 bo 26 #[.int .u8 1, .slice (some ⟨g5, 0, none⟩) (j + 1) cap5, .slice none 0 0] from hW4 ▸ Row.setc HR5.out 1 _)
            have HO6 := Lib.hid (show Own W4 B 3 1 (some ⟨g5, 0, none⟩) (j + 1) cap5 _ from Own.ch HO5.out (Ch.ofSome (S := fun k => k = bo) hg4 rfl) (fun h0 g e h => by
              have := (Own.inn HO5.out (g := g) ⟨h0, e⟩).1
              have := HBB.out
              omega))
            have HT6 := Lib.hid ((Row.ch HT.out HCH.out (fun h => by have := HIN5.out _ h; have := HBB.out; omega)).grownNe hg4 (by have := HBB.out; omega))
            have HG6 := Lib.hid (grownBy_old (Ch.fresh HG.out HCH.out (fun g hg h => by have := HIN5.out _ h; have := HBB.out; omega)) hg4 (by have := HBB.out; omega))
            have HZ6 := Lib.hid (Nat.le_trans HZ.out (Nat.le_trans HCH.out.size hg4.size))
            clear hW4 hg4 e1 f1
            go_roundw
            case rel =>
              refine ⟨(j + 1), _, _, by omega, by first | rfl | go_num, HR6.out, ?_, HT6.out, HG6.out, HZ6.out, fun i hi => ?_⟩
              · have h := HO6.out
                have e : (T.take ((j + 1))).map byN = (T.take (j)).map byN ++ [X] := by
                  rw [List.take_succ_eq_append_getElem hjl, List.map_append, List.map_singleton]
                  congr 2
                  rw [HXX.out, HXT.out, List.getD_eq_getElem?_getD, List.getElem?_eq_getElem hjl]
                  rfl
                rw [e]
                unfold IOwn IV
                rw [List.map_append]
                exact h
              · by_cases e : i = j
                · rw [e]; exact HK0'.out
                · exact HOK.out i (by omega)
            case measure => simp [intOf]; omega
          · have hd : decide (X ≤ Y) = true := decide_eq_true (by omega)
            have hbad : firstBad T = j := firstBad_at hjl HOK.out (by
              rw [HOJ.out, decide_eq_false hj0, decide_eq_false (show ¬ (T.getD (j - 1) 0).toNat < x.toNat by have := HXX.out; omega)]
              simp)
            clear hY
            go_upto_region 18 with (go_at_call 26; refine (number_n X _).mono ?_; rintro e w' ⟨rfl, rfl⟩; rw [hnum])
            go_wp2_with fail
            refine (fail_n (2 + (j : Int)) wr).mono ?_
            rintro e wf ⟨rfl, gf⟩
            have HTf := Lib.hid (HT.out.grown gf)
            have HGf := Lib.hid (grownBy_trans HG.out gf)
            clear gf
            go_wp2_with (refine wpList_putrow rfl rfl w.heap.size rfl #[.int .u8 0, .slice none 0 0, .slice none 0 0] rfl HTf.out (by kernel_rfl) rfl (by simp [Value.oneCell']) ?_; intro W5 hg5 hr5; have HG5 := Lib.hid hg5; have HR5 := Lib.hid hr5; clear hg5 hr5)
            refine bodyPost_ret (results_ctt rfl _ _ w.heap.size 26 #[.int .u8 0, .slice none 0 0, .slice none 0 0] (0, 0) _ _ _ rfl rfl rfl HR5.out Try.underlying26 rfl (by kernel_rfl)) rfl ?_
            rw [HD.out, if_pos (by rw [hbad]; exact hjl), hbad]
            exact repP_err (2 + j) _ (by omega) (grownBy_old HGf.out HG5.out (Nat.le_refl _))
    · obtain rfl : j = q := by omega
      have hall : firstBad T = T.length := firstBad_none (fun i hi => HOK.out i (by have := HTL.out; omega))
      have hnd : ((n : Int) != 2 + (M : Int)) = true := by rw [bne_iff_ne]; have := HNM.out; omega
      have hmn : decide (2 + (M : Int) < (n : Int)) = false := decide_eq_false (by have := HNM.out; omega)
      have hif : (if 2 + (M : Int) < (n : Int) then 2 + (M : Int) else (n : Int)) = (n : Int) := by have := HNM.out; split <;> omega
      go_wp2_with fail
      refine (fail_n (n : Int) wr).mono ?_
      rintro e wf ⟨rfl, gf⟩
      have HTf := Lib.hid (HT.out.grown gf)
      have HGf := Lib.hid (grownBy_trans HG.out gf)
      clear gf
      go_wp2_with (refine wpList_putrow rfl rfl w.heap.size rfl #[.int .u8 0, .slice none 0 0, .slice none 0 0] rfl HTf.out (by kernel_rfl) rfl (by simp [Value.oneCell']) ?_; intro W5 hg5 hr5; have HG5 := Lib.hid hg5; have HR5 := Lib.hid hr5; clear hg5 hr5)
      refine bodyPost_ret (results_ctt rfl _ _ w.heap.size 26 #[.int .u8 0, .slice none 0 0, .slice none 0 0] (0, 0) _ _ _ rfl rfl rfl HR5.out Try.underlying26 rfl (by kernel_rfl)) rfl ?_
      rw [HD.out, if_neg (by rw [hall]; omega), if_pos (by rw [HNN.out, ← HMM.out]; have := HNM.out; omega), HNN.out, ← HMM.out, show min n (2 + M) = n from by have := HNM.out; omega]
      exact repP_err (n) _ (by omega) (grownBy_old HGf.out HG5.out (Nat.le_refl _))
set_option maxRecDepth 100000 in
set_option maxHeartbeats 4000000 in
theorem reply_1c (a : Option Addr) (n c : Nat) (l : List UInt8) (w : World) (hl : BLies w a l) (hn : l.length = n) (hnm : n ≤ 140737488355328) (hc : n ≤ c) (b off : Nat) (ha : a = some ⟨b, off, none⟩) (hK : (1 : Int) = ((l.getD 0 0).toNat : Int)) (h1 : 1 ≤ n) (hs : 2 ≤ n) (hnM : 2 + (l.getD 1 0).toNat < n) :
    Calls Try.prog 10 #[.slice a n c] w fun e w' => RepP w (decR l) e w' := by
  have HD := Lib.hid (decR_1 hK.symm (by omega))
  have hce : ∀ W, w.grownBy W none → ∀ k, k < n → W.cell? ⟨b, off + k, none⟩ = some (.int .u8 ((l.getD k 0).toNat : Int)) := fun W hW k hk => by
    obtain ⟨b', off', e, h⟩ := bytes_cells (hl.grown hW) (by omega)
    rw [ha] at e
    injection e with e
    injection e with e1 e2
    subst e1; subst e2
    exact h k (by omega)
  have HC := Lib.hid hce
  have h00 : ((n : Int) == 0) = false := by rw [beq_eq_false_iff_ne]; omega
  have hK0 : ∀ W, w.grownBy W none → W.cell? ⟨b, off, none⟩ = some (.int .u8 1) := fun W hW => by rw [hK]; exact hce W hW 0 (by omega)
  have HK0 := Lib.hid hK0
  subst ha
  clear hce hK0
  obtain ⟨M, hM⟩ : ∃ M, M = (l.getD 1 0).toNat := ⟨_, rfl⟩
  obtain ⟨T, hT⟩ : ∃ T, T = (l.drop 2).take (l.getD 1 0).toNat := ⟨_, rfl⟩
  rw [← hT] at HD
  rw [← hM] at hT hnM
  have hMb : M ≤ 255 := by have := (l.getD 1 0).toNat_lt; omega
  obtain ⟨R, hR⟩ : ∃ R, R = min n (2 + M) := ⟨_, rfl⟩
  obtain ⟨q, hq⟩ : ∃ q, q = R - 2 := ⟨_, rfl⟩
  have HTL := Lib.hid (show T.length = q by rw [hT, List.length_take, List.length_drop]; omega)
  have HRq := Lib.hid (show 2 + M - 2 = q by omega)
  have HR2' := Lib.hid (show 2 + M ≤ c by omega)
  have hqb : q ≤ 255 := by omega
  have HQB := Lib.hid hqb
  have hqn : q + 2 ≤ n := by omega
  have HQ := Lib.hid hqn
  have HNM := Lib.hid hnM
  have HMM := Lib.hid hM
  have HTT := Lib.hid hT
  have HNN := Lib.hid hn
  have hmin : decide (2 + (M : Int) < (n : Int)) = true := decide_eq_true (by omega)
  have hmin2 : decide (2 + M < n) = true := decide_eq_true (by omega)
  have hif : (if 2 + (M : Int) < (n : Int) then 2 + (M : Int) else (n : Int)) = 2 + (M : Int) := by split <;> omega
  obtain ⟨A, hA⟩ : ∃ A, A = midA (some ⟨b, off, none⟩) 2 c := ⟨_, rfl⟩
  have HA := Lib.hid (show ∀ W, w.grownBy W none → BLies W A T from fun W hW => by
    have h := mid_lies (hl.grown hW) 2 q c (by omega) (by omega)
    rw [hA]
    have e : (l.drop 2).take q = T := by
      rw [hT]
      by_cases h2 : n ≤ 2 + M
      · rw [List.take_of_length_le (by rw [List.length_drop]; omega), List.take_of_length_le (by rw [List.length_drop]; omega)]
      · rw [show q = M by omega]
    rw [e] at h
    exact h)
  have HAA := Lib.hid hA
  have HM1 := Lib.hid (show ∀ W, w.grownBy W none → W.cell? ⟨b, off + 1, none⟩ = some (.int .u8 (M : Int)) from fun W hW => by rw [hM]; exact HC.out W hW 1 (by omega))
  have e5 : decide ((n : Int) < 2) = false := decide_eq_false (by omega)
  have e52 : decide (n < 2) = false := decide_eq_false (by omega)
  have eM : decide ((255 : Int) < (M : Int)) = false := decide_eq_false (by omega)
  have eM2 : decide (255 < M) = false := decide_eq_false (by omega)
  have hwM : IntKind.i64.wrap (M : Int) = (M : Int) := IntWalk.i64_in _ (by omega)
  clear hl hn hK hc hM hT hR hq hA hnM
  obtain ⟨ir, zr, hir, hirz, hirs, hz⟩ := info_rep
  subst hz
  go_enter Try.func10, Try.ntmps10
  go_upto_region 4 with (refine wpList_made rfl rfl hir hirz ?_; intro w1 hs1 hg1 hr1; have HS1 := Lib.hid hs1; have HG1 := Lib.hid hg1; have HR1 := Lib.hid (show Row w1 w.heap.size 26 #[.int .u8 0, .slice none 0 0, .slice none 0 0] from hr1); clear hs1 hg1 hr1)
  have k0 := HK0.out w1 HG1.out
  go_upto_region 5 with (refine wpList_fresh rfl rfl rfl rfl rfl hir hirz hirs #[.int .u8 1, .slice none 0 0, .slice none 0 0] rfl rfl rfl (by simp [Value.oneCell']) ?_; intro w2 hs2 hg2 hr2; have HS2 := Lib.hid hs2; have HG2 := Lib.hid (grownBy_trans HG1.out hg2); have HR2 := Lib.hid hr2; have HT2 := Lib.hid (HR1.out.grown hg2); have d0 := Row.cell hr2 0; simp at d0; clear k0 hs2 hg2 hr2)
  go_upto_region 11 with fail
  have hm1 := HM1.out w2 HG2.out
  go_quiet (fail)
  obtain ⟨w3, h3⟩ : ∃ w3, w3 = w2.drewN nq := ⟨_, rfl⟩
  rw [← h3]
  have hg3 : w2.grownBy w3 none := h3 ▸ grownBy_drewN _ _ _
  have HG3 := Lib.hid (grownBy_trans HG2.out hg3)
  have HR3 := Lib.hid (HR2.out.grown hg3)
  have HT3 := Lib.hid (HT2.out.grown hg3)
  clear h3 hg3 d0 hm1 hwM
  obtain ⟨B, hB⟩ : ∃ B, B = w3.heap.size := ⟨_, rfl⟩
  obtain ⟨bo, hbo⟩ : ∃ bo, bo = w1.heap.size := ⟨_, rfl⟩
  rw [← hbo] at HR3 ⊢
  have HBB := Lib.hid (show w.heap.size < bo ∧ bo < B from ⟨by rw [hbo]; exact HR1.out.lt, by rw [hB]; exact HR3.out.lt⟩)
  have HBZ := Lib.hid (show B ≤ w3.heap.size by omega)
  clear hB hbo
  go_wp2_with (refine wpList_valp rfl (run_mid_op3 _ _ (.tmp 64) (.tmp 65) (.tmp 71) rfl (some ⟨b, off, none⟩) n c 2 (2 + M) q rfl rfl rfl (by omega) HR2'.out HRq.out) ?_; rw [← HAA.out])
  clear hmin hmin2 hif e5 e52 eM eM2
  go_loopw [74] (fun vi wr => ∃ (j : Nat) (an : Option Addr) (cn : Nat), j ≤ q ∧ vi = .int .i64 (j : Int) ∧ Row wr bo 26 #[.int .u8 1, .slice an j cn, .slice none 0 0] ∧ IOwn wr B an j cn ((T.take j).map byN) ∧ Row wr w.heap.size 26 #[.int .u8 0, .slice none 0 0, .slice none 0 0] ∧ w.grownBy wr none ∧ B ≤ wr.heap.size ∧ ∀ i, i < j → okN T i = true) (fun vi _ => q - (intOf vi).toNat)
  case atStart => exact ⟨0, none, 0, by omega, rfl, HR3.out, Own.nil _ _ _ _ _, HT3.out, HG3.out, HBZ.out, fun i h => absurd h (by omega)⟩
  case round =>
    obtain ⟨j, an, cn, hj, rfl, hr, ho, ht, hg, hz, hok⟩ := hrel
    have HR := Lib.hid hr
    have HO := Lib.hid ho
    have HT := Lib.hid ht
    have HG := Lib.hid hg
    have HZ := Lib.hid hz
    have HOK := Lib.hid hok
    clear hr ho ht hg hz hok
    by_cases hlt : j < q
    · obtain ⟨b2, off2, rfl, hc2⟩ := bytes_cells (HA.out wr HG.out) (by have := HTL.out; omega)
      have hjl : j < T.length := by have := HTL.out; omega
      have hcj := hc2 j hjl
      obtain ⟨x, hx⟩ : ∃ x, x = T.getD j 0 := ⟨_, rfl⟩
      rw [← hx] at hcj
      have hxb := x.toNat_lt
      obtain ⟨X, hX⟩ : ∃ X : Int, X = (x.toNat : Int) := ⟨_, rfl⟩
      rw [← hX] at hcj
      have hX0 : 0 ≤ X ∧ X ≤ 255 := by omega
      have HX0 := Lib.hid hX0
      have hwX : IntKind.i64.wrap X = X := IntWalk.i64_in _ (by omega)
      have hoj : okN T j = (decide (X ≠ 255) && (decide (j = 0) || decide ((T.getD (j - 1) 0).toNat < x.toNat))) := by
        unfold okN
        rw [← hx]
        have h255 : x = 255 ↔ X = 255 := by rw [← UInt8.toNat_inj, hX]; exact ⟨fun h => by rw [h]; rfl, fun h => by have e : (255 : UInt8).toNat = 255 := rfl; omega⟩
        congr 1
        exact decide_eq_decide.2 (not_congr h255)
      have HOJ := Lib.hid hoj
      have HXX := Lib.hid hX
      have HXT := Lib.hid hx
      clear hc2 hoj hx hX hxb hX0
      by_cases hx5 : X = 255
      · subst hx5
        have hbad : firstBad T = j := firstBad_at hjl HOK.out (by rw [HOJ.out]; rfl)
        go_upto_region 18 with (go_at_call 26; refine (number_n 255 _).mono ?_; rintro e w' ⟨rfl, rfl⟩)
        go_wp2_with fail
        refine (fail_n (2 + (j : Int)) wr).mono ?_
        rintro e wf ⟨rfl, gf⟩
        have HTf := Lib.hid (HT.out.grown gf)
        have HGf := Lib.hid (grownBy_trans HG.out gf)
        clear gf
        go_wp2_with (refine wpList_putrow rfl rfl w.heap.size rfl #[.int .u8 0, .slice none 0 0, .slice none 0 0] rfl HTf.out (by kernel_rfl) rfl (by simp [Value.oneCell']) ?_; intro W5 hg5 hr5; have HG5 := Lib.hid hg5; have HR5 := Lib.hid hr5; clear hg5 hr5)
        refine bodyPost_ret (results_ctt rfl _ _ w.heap.size 26 #[.int .u8 0, .slice none 0 0, .slice none 0 0] (0, 0) _ _ _ rfl rfl rfl HR5.out Try.underlying26 rfl (by kernel_rfl)) rfl ?_
        rw [HD.out, if_pos (by rw [hbad]; exact hjl), hbad]
        exact repP_err (2 + j) _ (by omega) (grownBy_old HGf.out HG5.out (Nat.le_refl _))
      · have hnum : (decide (0 ≤ X) && decide (X < 255)) = true := by have := HX0.out; rw [decide_eq_true (by omega), decide_eq_true (by omega)]; rfl
        by_cases hj0 : j = 0
        · subst hj0
          have hok0 : okN T 0 = true := by rw [HOJ.out, decide_eq_true hx5]; rfl
          have HK0' := Lib.hid hok0
          clear hok0
          simp only [Nat.add_zero] at hcj
          go_upto_region 19 with (go_at_call 26; refine (number_n X _).mono ?_; rintro e w' ⟨rfl, rfl⟩; rw [hnum])
          have d1 := Row.cell HR.out 1
          simp at d1
          go_wp2_with (at_builtin; refine wpList_push elI rfl (.tmp 107) (.tmp 110) rfl rfl HO.out (.int .i64 X) rfl rfl (by unfold maxLen; have := HQB.out; omega) (by have := HQB.out; omega) HZ.out ?_; intro g5 cap5 w5 hown5 hgr5; have HO5 := Lib.hid hown5; have HCH := Lib.hid hgr5.ch; have HIN5 := Lib.hid (fun (y : Nat) (h : In an cn y) => (Own.inn HO.out h).1); have HR5 := Lib.hid (Row.ch HR.out hgr5.ch (fun h => by have := (Own.inn HO.out h).1; have := HBB.out; omega)); have e1 := Row.cell HR5.out 1; have f1 := Row.frozen HR5.out 1; simp at e1; clear hown5 hgr5 d1)
          obtain ⟨W4, hW4⟩ : ∃ W4, W4 = w5.setCell ⟨bo, 1, none⟩ (.slice (some ⟨g5, 0, none⟩) 1 cap5) := ⟨_, rfl⟩
          rw [← hW4]
          have hg4 : w5.grownBy W4 (some bo) := hW4 ▸ grownBy_setCell _ _ _ _
          have HR6 := Lib.hid (show Row W4 bo 26 #[.int .u8 1, .slice (some ⟨g5, 0, none⟩) 1 cap5, .slice none 0 0] from hW4 ▸ Row.setc HR5.out 1 _)
          have HO6 := Lib.hid (show Own W4 B 3 1 (some ⟨g5, 0, none⟩) 1 cap5 _ from Own.ch HO5.out (Ch.ofSome (S := fun k => k = bo) hg4 rfl) (fun h0 g e h => by
            have := (Own.inn HO5.out (g := g) ⟨h0, e⟩).1
            have := HBB.out
            omega))
          have HT6 := Lib.hid ((Row.ch HT.out HCH.out (fun h => by have := HIN5.out _ h; have := HBB.out; omega)).grownNe hg4 (by have := HBB.out; omega))
          have HG6 := Lib.hid (grownBy_old (Ch.fresh HG.out HCH.out (fun g hg h => by have := HIN5.out _ h; have := HBB.out; omega)) hg4 (by have := HBB.out; omega))
          have HZ6 := Lib.hid (Nat.le_trans HZ.out (Nat.le_trans HCH.out.size hg4.size))
          clear hW4 hg4 e1 f1
          go_roundw
          case rel =>
            refine ⟨1, _, _, by omega, by first | rfl | go_num, HR6.out, ?_, HT6.out, HG6.out, HZ6.out, fun i hi => ?_⟩
            · have h := HO6.out
              have e : (T.take (1)).map byN = (T.take (0)).map byN ++ [X] := by
                rw [show 1 = 0 + 1 from rfl, List.take_succ_eq_append_getElem hjl, List.map_append, List.map_singleton]
                congr 2
                rw [HXX.out, HXT.out, List.getD_eq_getElem?_getD, List.getElem?_eq_getElem hjl]
                rfl
              rw [e]
              unfold IOwn IV
              rw [List.map_append]
              exact h
            · by_cases e : i = 0
              · rw [e]; exact HK0'.out
              · exact HOK.out i (by omega)
          case measure => simp [intOf]; omega
        · have hj1 : decide (0 < j) = true := decide_eq_true (by omega)
          have hj2 : decide ((0 : Int) < (j : Int)) = true := decide_eq_true (by omega)
          obtain ⟨Y, hY⟩ : ∃ Y : Int, Y = ((T.getD (j - 1) 0).toNat : Int) := ⟨_, rfl⟩
          have hcp : wr.cell? ⟨b, off + (1 + j), none⟩ = some (.int .u8 Y) := by
            have h := HC.out wr HG.out (1 + j) (by have := HQ.out; omega)
            have e : T.getD (j - 1) 0 = l.getD (1 + j) 0 := by
              rw [HTT.out, getD_tk (by rw [← HTT.out]; omega)]
              congr 1
              omega
            rw [hY, e]
            exact h
          have hjm : ((1 + j : Nat) : Int) = 2 + (j : Int) - 1 := by omega
          by_cases hxy : Y < X
          · have hd : decide (X ≤ Y) = false := decide_eq_false (by omega)
            have hokj : okN T j = true := by
              rw [HOJ.out, decide_eq_true hx5, decide_eq_true (show (T.getD (j - 1) 0).toNat < x.toNat by have := HXX.out; omega)]
              simp
            have HK0' := Lib.hid hokj
            clear hokj hY
            go_upto_region 19 with (go_at_call 26; refine (number_n X _).mono ?_; rintro e w' ⟨rfl, rfl⟩; rw [hnum])
            have d1 := Row.cell HR.out 1
            simp at d1
            go_wp2_with (at_builtin; refine wpList_push elI rfl (.tmp 107) (.tmp 110) rfl rfl HO.out (.int .i64 X) rfl rfl (by unfold maxLen; have := HQB.out; omega) (by have := HQB.out; omega) HZ.out ?_; intro g5 cap5 w5 hown5 hgr5; have HO5 := Lib.hid hown5; have HCH := Lib.hid hgr5.ch; have HIN5 := Lib.hid (fun (y : Nat) (h : In an cn y) => (Own.inn HO.out h).1); have HR5 := Lib.hid (Row.ch HR.out hgr5.ch (fun h => by have := (Own.inn HO.out h).1; have := HBB.out; omega)); have e1 := Row.cell HR5.out 1; have f1 := Row.frozen HR5.out 1; simp at e1; clear hown5 hgr5 d1)
            obtain ⟨W4, hW4⟩ : ∃ W4, W4 = w5.setCell ⟨bo, 1, none⟩ (.slice (some ⟨g5, 0, none⟩) (j + 1) cap5) := ⟨_, rfl⟩
            rw [← hW4]
            have hg4 : w5.grownBy W4 (some bo) := hW4 ▸ grownBy_setCell _ _ _ _
            have HR6 := Lib.hid (show Row W4 bo 26 #[.int .u8 1, .slice (some ⟨g5, 0, none⟩) (j + 1) cap5, .slice none 0 0] from hW4 ▸ Row.setc HR5.out 1 _)
            have HO6 := Lib.hid (show Own W4 B 3 1 (some ⟨g5, 0, none⟩) (j + 1) cap5 _ from Own.ch HO5.out (Ch.ofSome (S := fun k => k = bo) hg4 rfl) (fun h0 g e h => by
              have := (Own.inn HO5.out (g := g) ⟨h0, e⟩).1
              have := HBB.out
              omega))
            have HT6 := Lib.hid ((Row.ch HT.out HCH.out (fun h => by have := HIN5.out _ h; have := HBB.out; omega)).grownNe hg4 (by have := HBB.out; omega))
            have HG6 := Lib.hid (grownBy_old (Ch.fresh HG.out HCH.out (fun g hg h => by have := HIN5.out _ h; have := HBB.out; omega)) hg4 (by have := HBB.out; omega))
            have HZ6 := Lib.hid (Nat.le_trans HZ.out (Nat.le_trans HCH.out.size hg4.size))
            clear hW4 hg4 e1 f1
            go_roundw
            case rel =>
              refine ⟨(j + 1), _, _, by omega, by first | rfl | go_num, HR6.out, ?_, HT6.out, HG6.out, HZ6.out, fun i hi => ?_⟩
              · have h := HO6.out
                have e : (T.take ((j + 1))).map byN = (T.take (j)).map byN ++ [X] := by
                  rw [List.take_succ_eq_append_getElem hjl, List.map_append, List.map_singleton]
                  congr 2
                  rw [HXX.out, HXT.out, List.getD_eq_getElem?_getD, List.getElem?_eq_getElem hjl]
                  rfl
                rw [e]
                unfold IOwn IV
                rw [List.map_append]
                exact h
              · by_cases e : i = j
                · rw [e]; exact HK0'.out
                · exact HOK.out i (by omega)
            case measure => simp [intOf]; omega
          · have hd : decide (X ≤ Y) = true := decide_eq_true (by omega)
            have hbad : firstBad T = j := firstBad_at hjl HOK.out (by
              rw [HOJ.out, decide_eq_false hj0, decide_eq_false (show ¬ (T.getD (j - 1) 0).toNat < x.toNat by have := HXX.out; omega)]
              simp)
            clear hY
            go_upto_region 18 with (go_at_call 26; refine (number_n X _).mono ?_; rintro e w' ⟨rfl, rfl⟩; rw [hnum])
            go_wp2_with fail
            refine (fail_n (2 + (j : Int)) wr).mono ?_
            rintro e wf ⟨rfl, gf⟩
            have HTf := Lib.hid (HT.out.grown gf)
            have HGf := Lib.hid (grownBy_trans HG.out gf)
            clear gf
            go_wp2_with (refine wpList_putrow rfl rfl w.heap.size rfl #[.int .u8 0, .slice none 0 0, .slice none 0 0] rfl HTf.out (by kernel_rfl) rfl (by simp [Value.oneCell']) ?_; intro W5 hg5 hr5; have HG5 := Lib.hid hg5; have HR5 := Lib.hid hr5; clear hg5 hr5)
            refine bodyPost_ret (results_ctt rfl _ _ w.heap.size 26 #[.int .u8 0, .slice none 0 0, .slice none 0 0] (0, 0) _ _ _ rfl rfl rfl HR5.out Try.underlying26 rfl (by kernel_rfl)) rfl ?_
            rw [HD.out, if_pos (by rw [hbad]; exact hjl), hbad]
            exact repP_err (2 + j) _ (by omega) (grownBy_old HGf.out HG5.out (Nat.le_refl _))
    · obtain rfl : j = q := by omega
      have hall : firstBad T = T.length := firstBad_none (fun i hi => HOK.out i (by have := HTL.out; omega))
      have hnd : ((n : Int) != 2 + (M : Int)) = true := by rw [bne_iff_ne]; have := HNM.out; omega
      have hmn : decide (2 + (M : Int) < (n : Int)) = true := decide_eq_true (by have := HNM.out; omega)
      have hif : (if 2 + (M : Int) < (n : Int) then 2 + (M : Int) else (n : Int)) = (2 + (M : Int)) := by have := HNM.out; split <;> omega
      go_wp2_with fail
      refine (fail_n (2 + (M : Int)) wr).mono ?_
      rintro e wf ⟨rfl, gf⟩
      have HTf := Lib.hid (HT.out.grown gf)
      have HGf := Lib.hid (grownBy_trans HG.out gf)
      clear gf
      go_wp2_with (refine wpList_putrow rfl rfl w.heap.size rfl #[.int .u8 0, .slice none 0 0, .slice none 0 0] rfl HTf.out (by kernel_rfl) rfl (by simp [Value.oneCell']) ?_; intro W5 hg5 hr5; have HG5 := Lib.hid hg5; have HR5 := Lib.hid hr5; clear hg5 hr5)
      refine bodyPost_ret (results_ctt rfl _ _ w.heap.size 26 #[.int .u8 0, .slice none 0 0, .slice none 0 0] (0, 0) _ _ _ rfl rfl rfl HR5.out Try.underlying26 rfl (by kernel_rfl)) rfl ?_
      rw [HD.out, if_neg (by rw [hall]; omega), if_pos (by rw [HNN.out, ← HMM.out]; have := HNM.out; omega), HNN.out, ← HMM.out, show min n (2 + M) = 2 + M from by have := HNM.out; omega]
      exact repP_err (2 + M) _ (by omega) (grownBy_old HGf.out HG5.out (Nat.le_refl _))
set_option maxRecDepth 100000 in
set_option maxHeartbeats 4000000 in
theorem reply_1d (a : Option Addr) (n c : Nat) (l : List UInt8) (w : World) (hl : BLies w a l) (hn : l.length = n) (hnm : n ≤ 140737488355328) (hc : n ≤ c) (b off : Nat) (ha : a = some ⟨b, off, none⟩) (hK : (1 : Int) = ((l.getD 0 0).toNat : Int)) (h1 : 1 ≤ n) (hs : 2 ≤ n) (hnM : n = 2 + (l.getD 1 0).toNat) :
    Calls Try.prog 10 #[.slice a n c] w fun e w' => RepP w (decR l) e w' := by
  have HD := Lib.hid (decR_1 hK.symm (by omega))
  have hce : ∀ W, w.grownBy W none → ∀ k, k < n → W.cell? ⟨b, off + k, none⟩ = some (.int .u8 ((l.getD k 0).toNat : Int)) := fun W hW k hk => by
    obtain ⟨b', off', e, h⟩ := bytes_cells (hl.grown hW) (by omega)
    rw [ha] at e
    injection e with e
    injection e with e1 e2
    subst e1; subst e2
    exact h k (by omega)
  have HC := Lib.hid hce
  have h00 : ((n : Int) == 0) = false := by rw [beq_eq_false_iff_ne]; omega
  have hK0 : ∀ W, w.grownBy W none → W.cell? ⟨b, off, none⟩ = some (.int .u8 1) := fun W hW => by rw [hK]; exact hce W hW 0 (by omega)
  have HK0 := Lib.hid hK0
  subst ha
  clear hce hK0
  obtain ⟨M, hM⟩ : ∃ M, M = (l.getD 1 0).toNat := ⟨_, rfl⟩
  obtain ⟨T, hT⟩ : ∃ T, T = (l.drop 2).take (l.getD 1 0).toNat := ⟨_, rfl⟩
  rw [← hT] at HD
  rw [← hM] at hT hnM
  have hMb : M ≤ 255 := by have := (l.getD 1 0).toNat_lt; omega
  obtain ⟨R, hR⟩ : ∃ R, R = min n (2 + M) := ⟨_, rfl⟩
  obtain ⟨q, hq⟩ : ∃ q, q = R - 2 := ⟨_, rfl⟩
  have HTL := Lib.hid (show T.length = q by rw [hT, List.length_take, List.length_drop]; omega)
  have HRq := Lib.hid (show n - 2 = q by omega)
  have HR2' := Lib.hid (show n ≤ c by omega)
  have hqb : q ≤ 255 := by omega
  have HQB := Lib.hid hqb
  have hqn : q + 2 ≤ n := by omega
  have HQ := Lib.hid hqn
  have HNM := Lib.hid hnM
  have HMM := Lib.hid hM
  have HTT := Lib.hid hT
  have HNN := Lib.hid hn
  have hmin : decide (2 + (M : Int) < (n : Int)) = false := decide_eq_false (by omega)
  have hmin2 : decide (2 + M < n) = false := decide_eq_false (by omega)
  have hif : (if 2 + (M : Int) < (n : Int) then 2 + (M : Int) else (n : Int)) = (n : Int) := by split <;> omega
  obtain ⟨A, hA⟩ : ∃ A, A = midA (some ⟨b, off, none⟩) 2 c := ⟨_, rfl⟩
  have HA := Lib.hid (show ∀ W, w.grownBy W none → BLies W A T from fun W hW => by
    have h := mid_lies (hl.grown hW) 2 q c (by omega) (by omega)
    rw [hA]
    have e : (l.drop 2).take q = T := by
      rw [hT]
      by_cases h2 : n ≤ 2 + M
      · rw [List.take_of_length_le (by rw [List.length_drop]; omega), List.take_of_length_le (by rw [List.length_drop]; omega)]
      · rw [show q = M by omega]
    rw [e] at h
    exact h)
  have HAA := Lib.hid hA
  have HM1 := Lib.hid (show ∀ W, w.grownBy W none → W.cell? ⟨b, off + 1, none⟩ = some (.int .u8 (M : Int)) from fun W hW => by rw [hM]; exact HC.out W hW 1 (by omega))
  have e5 : decide ((n : Int) < 2) = false := decide_eq_false (by omega)
  have e52 : decide (n < 2) = false := decide_eq_false (by omega)
  have eM : decide ((255 : Int) < (M : Int)) = false := decide_eq_false (by omega)
  have eM2 : decide (255 < M) = false := decide_eq_false (by omega)
  have hwM : IntKind.i64.wrap (M : Int) = (M : Int) := IntWalk.i64_in _ (by omega)
  clear hl hn hK hc hM hT hR hq hA hnM
  obtain ⟨ir, zr, hir, hirz, hirs, hz⟩ := info_rep
  subst hz
  go_enter Try.func10, Try.ntmps10
  go_upto_region 4 with (refine wpList_made rfl rfl hir hirz ?_; intro w1 hs1 hg1 hr1; have HS1 := Lib.hid hs1; have HG1 := Lib.hid hg1; have HR1 := Lib.hid (show Row w1 w.heap.size 26 #[.int .u8 0, .slice none 0 0, .slice none 0 0] from hr1); clear hs1 hg1 hr1)
  have k0 := HK0.out w1 HG1.out
  go_upto_region 5 with (refine wpList_fresh rfl rfl rfl rfl rfl hir hirz hirs #[.int .u8 1, .slice none 0 0, .slice none 0 0] rfl rfl rfl (by simp [Value.oneCell']) ?_; intro w2 hs2 hg2 hr2; have HS2 := Lib.hid hs2; have HG2 := Lib.hid (grownBy_trans HG1.out hg2); have HR2 := Lib.hid hr2; have HT2 := Lib.hid (HR1.out.grown hg2); have d0 := Row.cell hr2 0; simp at d0; clear k0 hs2 hg2 hr2)
  go_upto_region 11 with fail
  have hm1 := HM1.out w2 HG2.out
  go_quiet (fail)
  obtain ⟨w3, h3⟩ : ∃ w3, w3 = w2.drewN nq := ⟨_, rfl⟩
  rw [← h3]
  have hg3 : w2.grownBy w3 none := h3 ▸ grownBy_drewN _ _ _
  have HG3 := Lib.hid (grownBy_trans HG2.out hg3)
  have HR3 := Lib.hid (HR2.out.grown hg3)
  have HT3 := Lib.hid (HT2.out.grown hg3)
  clear h3 hg3 d0 hm1 hwM
  obtain ⟨B, hB⟩ : ∃ B, B = w3.heap.size := ⟨_, rfl⟩
  obtain ⟨bo, hbo⟩ : ∃ bo, bo = w1.heap.size := ⟨_, rfl⟩
  rw [← hbo] at HR3 ⊢
  have HBB := Lib.hid (show w.heap.size < bo ∧ bo < B from ⟨by rw [hbo]; exact HR1.out.lt, by rw [hB]; exact HR3.out.lt⟩)
  have HBZ := Lib.hid (show B ≤ w3.heap.size by omega)
  clear hB hbo
  go_wp2_with (refine wpList_valp rfl (run_mid_op3 _ _ (.tmp 64) (.tmp 65) (.tmp 71) rfl (some ⟨b, off, none⟩) n c 2 n q rfl rfl rfl (by omega) HR2'.out HRq.out) ?_; rw [← HAA.out])
  clear hmin hmin2 hif e5 e52 eM eM2
  go_loopw [74] (fun vi wr => ∃ (j : Nat) (an : Option Addr) (cn : Nat), j ≤ q ∧ vi = .int .i64 (j : Int) ∧ Row wr bo 26 #[.int .u8 1, .slice an j cn, .slice none 0 0] ∧ IOwn wr B an j cn ((T.take j).map byN) ∧ Row wr w.heap.size 26 #[.int .u8 0, .slice none 0 0, .slice none 0 0] ∧ w.grownBy wr none ∧ B ≤ wr.heap.size ∧ ∀ i, i < j → okN T i = true) (fun vi _ => q - (intOf vi).toNat)
  case atStart => exact ⟨0, none, 0, by omega, rfl, HR3.out, Own.nil _ _ _ _ _, HT3.out, HG3.out, HBZ.out, fun i h => absurd h (by omega)⟩
  case round =>
    obtain ⟨j, an, cn, hj, rfl, hr, ho, ht, hg, hz, hok⟩ := hrel
    have HR := Lib.hid hr
    have HO := Lib.hid ho
    have HT := Lib.hid ht
    have HG := Lib.hid hg
    have HZ := Lib.hid hz
    have HOK := Lib.hid hok
    clear hr ho ht hg hz hok
    by_cases hlt : j < q
    · obtain ⟨b2, off2, rfl, hc2⟩ := bytes_cells (HA.out wr HG.out) (by have := HTL.out; omega)
      have hjl : j < T.length := by have := HTL.out; omega
      have hcj := hc2 j hjl
      obtain ⟨x, hx⟩ : ∃ x, x = T.getD j 0 := ⟨_, rfl⟩
      rw [← hx] at hcj
      have hxb := x.toNat_lt
      obtain ⟨X, hX⟩ : ∃ X : Int, X = (x.toNat : Int) := ⟨_, rfl⟩
      rw [← hX] at hcj
      have hX0 : 0 ≤ X ∧ X ≤ 255 := by omega
      have HX0 := Lib.hid hX0
      have hwX : IntKind.i64.wrap X = X := IntWalk.i64_in _ (by omega)
      have hoj : okN T j = (decide (X ≠ 255) && (decide (j = 0) || decide ((T.getD (j - 1) 0).toNat < x.toNat))) := by
        unfold okN
        rw [← hx]
        have h255 : x = 255 ↔ X = 255 := by rw [← UInt8.toNat_inj, hX]; exact ⟨fun h => by rw [h]; rfl, fun h => by have e : (255 : UInt8).toNat = 255 := rfl; omega⟩
        congr 1
        exact decide_eq_decide.2 (not_congr h255)
      have HOJ := Lib.hid hoj
      have HXX := Lib.hid hX
      have HXT := Lib.hid hx
      clear hc2 hoj hx hX hxb hX0
      by_cases hx5 : X = 255
      · subst hx5
        have hbad : firstBad T = j := firstBad_at hjl HOK.out (by rw [HOJ.out]; rfl)
        go_upto_region 18 with (go_at_call 26; refine (number_n 255 _).mono ?_; rintro e w' ⟨rfl, rfl⟩)
        go_wp2_with fail
        refine (fail_n (2 + (j : Int)) wr).mono ?_
        rintro e wf ⟨rfl, gf⟩
        have HTf := Lib.hid (HT.out.grown gf)
        have HGf := Lib.hid (grownBy_trans HG.out gf)
        clear gf
        go_wp2_with (refine wpList_putrow rfl rfl w.heap.size rfl #[.int .u8 0, .slice none 0 0, .slice none 0 0] rfl HTf.out (by kernel_rfl) rfl (by simp [Value.oneCell']) ?_; intro W5 hg5 hr5; have HG5 := Lib.hid hg5; have HR5 := Lib.hid hr5; clear hg5 hr5)
        refine bodyPost_ret (results_ctt rfl _ _ w.heap.size 26 #[.int .u8 0, .slice none 0 0, .slice none 0 0] (0, 0) _ _ _ rfl rfl rfl HR5.out Try.underlying26 rfl (by kernel_rfl)) rfl ?_
        rw [HD.out, if_pos (by rw [hbad]; exact hjl), hbad]
        exact repP_err (2 + j) _ (by omega) (grownBy_old HGf.out HG5.out (Nat.le_refl _))
      · have hnum : (decide (0 ≤ X) && decide (X < 255)) = true := by have := HX0.out; rw [decide_eq_true (by omega), decide_eq_true (by omega)]; rfl
        by_cases hj0 : j = 0
        · subst hj0
          have hok0 : okN T 0 = true := by rw [HOJ.out, decide_eq_true hx5]; rfl
          have HK0' := Lib.hid hok0
          clear hok0
          simp only [Nat.add_zero] at hcj
          go_upto_region 19 with (go_at_call 26; refine (number_n X _).mono ?_; rintro e w' ⟨rfl, rfl⟩; rw [hnum])
          have d1 := Row.cell HR.out 1
          simp at d1
          go_wp2_with (at_builtin; refine wpList_push elI rfl (.tmp 107) (.tmp 110) rfl rfl HO.out (.int .i64 X) rfl rfl (by unfold maxLen; have := HQB.out; omega) (by have := HQB.out; omega) HZ.out ?_; intro g5 cap5 w5 hown5 hgr5; have HO5 := Lib.hid hown5; have HCH := Lib.hid hgr5.ch; have HIN5 := Lib.hid (fun (y : Nat) (h : In an cn y) => (Own.inn HO.out h).1); have HR5 := Lib.hid (Row.ch HR.out hgr5.ch (fun h => by have := (Own.inn HO.out h).1; have := HBB.out; omega)); have e1 := Row.cell HR5.out 1; have f1 := Row.frozen HR5.out 1; simp at e1; clear hown5 hgr5 d1)
          obtain ⟨W4, hW4⟩ : ∃ W4, W4 = w5.setCell ⟨bo, 1, none⟩ (.slice (some ⟨g5, 0, none⟩) 1 cap5) := ⟨_, rfl⟩
          rw [← hW4]
          have hg4 : w5.grownBy W4 (some bo) := hW4 ▸ grownBy_setCell _ _ _ _
          have HR6 := Lib.hid (show Row W4 bo 26 #[.int .u8 1, .slice (some ⟨g5, 0, none⟩) 1 cap5, .slice none 0 0] from hW4 ▸ Row.setc HR5.out 1 _)
          have HO6 := Lib.hid (show Own W4 B 3 1 (some ⟨g5, 0, none⟩) 1 cap5 _ from Own.ch HO5.out (Ch.ofSome (S := fun k => k = bo) hg4 rfl) (fun h0 g e h => by
            have := (Own.inn HO5.out (g := g) ⟨h0, e⟩).1
            have := HBB.out
            omega))
          have HT6 := Lib.hid ((Row.ch HT.out HCH.out (fun h => by have := HIN5.out _ h; have := HBB.out; omega)).grownNe hg4 (by have := HBB.out; omega))
          have HG6 := Lib.hid (grownBy_old (Ch.fresh HG.out HCH.out (fun g hg h => by have := HIN5.out _ h; have := HBB.out; omega)) hg4 (by have := HBB.out; omega))
          have HZ6 := Lib.hid (Nat.le_trans HZ.out (Nat.le_trans HCH.out.size hg4.size))
          clear hW4 hg4 e1 f1
          go_roundw
          case rel =>
            refine ⟨1, _, _, by omega, by first | rfl | go_num, HR6.out, ?_, HT6.out, HG6.out, HZ6.out, fun i hi => ?_⟩
            · have h := HO6.out
              have e : (T.take (1)).map byN = (T.take (0)).map byN ++ [X] := by
                rw [show 1 = 0 + 1 from rfl, List.take_succ_eq_append_getElem hjl, List.map_append, List.map_singleton]
                congr 2
                rw [HXX.out, HXT.out, List.getD_eq_getElem?_getD, List.getElem?_eq_getElem hjl]
                rfl
              rw [e]
              unfold IOwn IV
              rw [List.map_append]
              exact h
            · by_cases e : i = 0
              · rw [e]; exact HK0'.out
              · exact HOK.out i (by omega)
          case measure => simp [intOf]; omega
        · have hj1 : decide (0 < j) = true := decide_eq_true (by omega)
          have hj2 : decide ((0 : Int) < (j : Int)) = true := decide_eq_true (by omega)
          obtain ⟨Y, hY⟩ : ∃ Y : Int, Y = ((T.getD (j - 1) 0).toNat : Int) := ⟨_, rfl⟩
          have hcp : wr.cell? ⟨b, off + (1 + j), none⟩ = some (.int .u8 Y) := by
            have h := HC.out wr HG.out (1 + j) (by have := HQ.out; omega)
            have e : T.getD (j - 1) 0 = l.getD (1 + j) 0 := by
              rw [HTT.out, getD_tk (by rw [← HTT.out]; omega)]
              congr 1
              omega
            rw [hY, e]
            exact h
          have hjm : ((1 + j : Nat) : Int) = 2 + (j : Int) - 1 := by omega
          by_cases hxy : Y < X
          · have hd : decide (X ≤ Y) = false := decide_eq_false (by omega)
            have hokj : okN T j = true := by
              rw [HOJ.out, decide_eq_true hx5, decide_eq_true (show (T.getD (j - 1) 0).toNat < x.toNat by have := HXX.out; omega)]
              simp
            have HK0' := Lib.hid hokj
            clear hokj hY
            go_upto_region 19 with (go_at_call 26; refine (number_n X _).mono ?_; rintro e w' ⟨rfl, rfl⟩; rw [hnum])
            have d1 := Row.cell HR.out 1
            simp at d1
            go_wp2_with (at_builtin; refine wpList_push elI rfl (.tmp 107) (.tmp 110) rfl rfl HO.out (.int .i64 X) rfl rfl (by unfold maxLen; have := HQB.out; omega) (by have := HQB.out; omega) HZ.out ?_; intro g5 cap5 w5 hown5 hgr5; have HO5 := Lib.hid hown5; have HCH := Lib.hid hgr5.ch; have HIN5 := Lib.hid (fun (y : Nat) (h : In an cn y) => (Own.inn HO.out h).1); have HR5 := Lib.hid (Row.ch HR.out hgr5.ch (fun h => by have := (Own.inn HO.out h).1; have := HBB.out; omega)); have e1 := Row.cell HR5.out 1; have f1 := Row.frozen HR5.out 1; simp at e1; clear hown5 hgr5 d1)
            obtain ⟨W4, hW4⟩ : ∃ W4, W4 = w5.setCell ⟨bo, 1, none⟩ (.slice (some ⟨g5, 0, none⟩) (j + 1) cap5) := ⟨_, rfl⟩
            rw [← hW4]
            have hg4 : w5.grownBy W4 (some bo) := hW4 ▸ grownBy_setCell _ _ _ _
            have HR6 := Lib.hid (show Row W4 bo 26 #[.int .u8 1, .slice (some ⟨g5, 0, none⟩) (j + 1) cap5, .slice none 0 0] from hW4 ▸ Row.setc HR5.out 1 _)
            have HO6 := Lib.hid (show Own W4 B 3 1 (some ⟨g5, 0, none⟩) (j + 1) cap5 _ from Own.ch HO5.out (Ch.ofSome (S := fun k => k = bo) hg4 rfl) (fun h0 g e h => by
              have := (Own.inn HO5.out (g := g) ⟨h0, e⟩).1
              have := HBB.out
              omega))
            have HT6 := Lib.hid ((Row.ch HT.out HCH.out (fun h => by have := HIN5.out _ h; have := HBB.out; omega)).grownNe hg4 (by have := HBB.out; omega))
            have HG6 := Lib.hid (grownBy_old (Ch.fresh HG.out HCH.out (fun g hg h => by have := HIN5.out _ h; have := HBB.out; omega)) hg4 (by have := HBB.out; omega))
            have HZ6 := Lib.hid (Nat.le_trans HZ.out (Nat.le_trans HCH.out.size hg4.size))
            clear hW4 hg4 e1 f1
            go_roundw
            case rel =>
              refine ⟨(j + 1), _, _, by omega, by first | rfl | go_num, HR6.out, ?_, HT6.out, HG6.out, HZ6.out, fun i hi => ?_⟩
              · have h := HO6.out
                have e : (T.take ((j + 1))).map byN = (T.take (j)).map byN ++ [X] := by
                  rw [List.take_succ_eq_append_getElem hjl, List.map_append, List.map_singleton]
                  congr 2
                  rw [HXX.out, HXT.out, List.getD_eq_getElem?_getD, List.getElem?_eq_getElem hjl]
                  rfl
                rw [e]
                unfold IOwn IV
                rw [List.map_append]
                exact h
              · by_cases e : i = j
                · rw [e]; exact HK0'.out
                · exact HOK.out i (by omega)
            case measure => simp [intOf]; omega
          · have hd : decide (X ≤ Y) = true := decide_eq_true (by omega)
            have hbad : firstBad T = j := firstBad_at hjl HOK.out (by
              rw [HOJ.out, decide_eq_false hj0, decide_eq_false (show ¬ (T.getD (j - 1) 0).toNat < x.toNat by have := HXX.out; omega)]
              simp)
            clear hY
            go_upto_region 18 with (go_at_call 26; refine (number_n X _).mono ?_; rintro e w' ⟨rfl, rfl⟩; rw [hnum])
            go_wp2_with fail
            refine (fail_n (2 + (j : Int)) wr).mono ?_
            rintro e wf ⟨rfl, gf⟩
            have HTf := Lib.hid (HT.out.grown gf)
            have HGf := Lib.hid (grownBy_trans HG.out gf)
            clear gf
            go_wp2_with (refine wpList_putrow rfl rfl w.heap.size rfl #[.int .u8 0, .slice none 0 0, .slice none 0 0] rfl HTf.out (by kernel_rfl) rfl (by simp [Value.oneCell']) ?_; intro W5 hg5 hr5; have HG5 := Lib.hid hg5; have HR5 := Lib.hid hr5; clear hg5 hr5)
            refine bodyPost_ret (results_ctt rfl _ _ w.heap.size 26 #[.int .u8 0, .slice none 0 0, .slice none 0 0] (0, 0) _ _ _ rfl rfl rfl HR5.out Try.underlying26 rfl (by kernel_rfl)) rfl ?_
            rw [HD.out, if_pos (by rw [hbad]; exact hjl), hbad]
            exact repP_err (2 + j) _ (by omega) (grownBy_old HGf.out HG5.out (Nat.le_refl _))
    · obtain rfl : j = q := by omega
      have hall : firstBad T = T.length := firstBad_none (fun i hi => HOK.out i (by have := HTL.out; omega))
      have hnd : ((n : Int) != 2 + (M : Int)) = false := by rw [bne_eq_false_iff_eq]; have := HNM.out; omega
      have k1 := Row.cell HR.out 0
      simp at k1
      go_upto_region 32 with fail
      go_wp2_with (first | (refine wpList_load_row rfl 26 _ rfl bo rfl 26 #[.int .u8 1, (.slice an j cn), .slice none 0 0] (0, 0) _ HR.out Try.underlying26 rfl (by kernel_rfl) ?_) | (refine wpList_putrow rfl rfl w.heap.size rfl #[.int .u8 1, (.slice an j cn), .slice none 0 0] rfl HT.out (by kernel_rfl) rfl (by simp [Value.oneCell']) ?_; intro W5 hg5 hr5; have HG5 := Lib.hid hg5; have HR5 := Lib.hid hr5; clear hg5 hr5))
      refine bodyPost_ret (results_ctt rfl _ _ w.heap.size 26 #[.int .u8 1, (.slice an j cn), .slice none 0 0] (0, 0) _ _ _ rfl rfl rfl HR5.out Try.underlying26 rfl (by kernel_rfl)) rfl ?_
      have ho5 := Own.ch HO.out (Ch.ofSome (S := fun k => k = w.heap.size) HG5.out rfl) (fun h0 g e h => by
        have := (Own.inn HO.out (g := g) ⟨h0, e⟩).1
        have := HBB.out
        omega)
      have hT2 : T = l.drop 2 := by
        rw [HTT.out]
        exact List.take_of_length_le (by rw [List.length_drop, HNN.out]; have := HNM.out; have := HMM.out; omega)
      rw [HD.out, if_neg (by rw [hall]; omega), if_neg (by rw [HNN.out, ← HMM.out]; have := HNM.out; omega)]
      refine ⟨_, _, _, none, 0, 0, rfl, ?_, Own.nil _ _ _ _ _, grownBy_old HG.out HG5.out (Nat.le_refl _)⟩
      rw [List.take_of_length_le (by have := HTL.out; omega), hT2] at ho5
      exact Own.mono ho5 (by have := HBB.out; omega)
end Go.Proofs.Ytkdmebcfedehiaa
/- wire.Reply of all bytes; strongroomkit.SameInts, SameReply. -/
namespace Go.Proofs.Ytkdmebcfedehiaa
open Go.RowKit

theorem reply_n (a : Option Addr) (n c : Nat) (l : List UInt8) (w : World) (hl : BLies w a l) (hn : l.length = n) (hc : n ≤ c) (hnm : n ≤ 140737488355328) :
    Calls Try.prog 10 #[.slice a n c] w fun e w' => RepP w (decR l) e w' := by
  rcases Nat.eq_zero_or_pos n with h0 | h0
  · exact reply_empty a n c l w hl hn hnm h0
  obtain ⟨b, off, ha, _⟩ := bytes_cells hl (by omega)
  by_cases h1 : (l.getD 0 0).toNat = 1
  · have hK : (1 : Int) = ((l.getD 0 0).toNat : Int) := by omega
    by_cases h2 : n < 2
    · exact reply_1a a n c l w hl hn hnm hc b off ha hK h0 h2
    rcases Nat.lt_trichotomy n (2 + (l.getD 1 0).toNat) with h | h | h
    · exact reply_1b a n c l w hl hn hnm hc b off ha hK h0 (by omega) h
    · exact reply_1d a n c l w hl hn hnm hc b off ha hK h0 (by omega) h
    · exact reply_1c a n c l w hl hn hnm hc b off ha hK h0 (by omega) h
  by_cases h5 : (l.getD 0 0).toNat = 5
  · have hK : (5 : Int) = ((l.getD 0 0).toNat : Int) := by omega
    by_cases h2 : n < 5
    · exact reply_5a a n c l w hl hn hnm hc b off ha hK h0 h2
    by_cases x1 : getN l 1 4 < 1
    · exact reply_5b a n c l w hl hn hnm hc b off ha hK h0 (by omega) x1
    by_cases x2 : 131072 < getN l 1 4
    · exact reply_5c a n c l w hl hn hnm hc b off ha hK h0 (by omega) x2
    rcases Nat.lt_trichotomy n (5 + getN l 1 4) with h | h | h
    · exact reply_5d1 a n c l w hl hn hnm hc b off ha hK h0 (by omega) ⟨by omega, by omega⟩ h
    · exact reply_5e a n c l w hl hn hnm hc b off ha hK h0 (by omega) ⟨by omega, by omega⟩ h
    · exact reply_5d2 a n c l w hl hn hnm hc b off ha hK h0 (by omega) ⟨by omega, by omega⟩ h
  by_cases hk : (l.getD 0 0).toNat < 1 ∨ 7 < (l.getD 0 0).toNat
  · exact reply_kind a n c l w hl hn hnm _ b off ha rfl h0 (by omega)
  · exact reply_plain a n c l w hl hn hnm _ b off ha rfl h0 (by omega) (by omega) (by omega) (by omega)

theorem takeI_step {l m : List Int} {k : Nat} (hl : k < l.length) (hm : k < m.length) (h : l.take k = m.take k) (e : l[k] = m[k]) : l.take (k + 1) = m.take (k + 1) := by
  rw [List.take_succ_eq_append_getElem hl, List.take_succ_eq_append_getElem hm, h, e]

set_option maxHeartbeats 1000000 in
theorem sameInts_any (a a' : Option Addr) (c c' : Nat) (la lb : List Int) (w : World) (ha : Lies w a (IV la)) (hb : Lies w a' (IV lb)) (hn : la.length ≤ maxLen) :
    Calls Try.prog 18 #[.slice a la.length c, .slice a' lb.length c'] w fun e w' => e = .returned (.bool (decide (la = lb))) ∧ ∃ n, w' = w.drewN n := by
  unfold maxLen at hn
  have HA : Hid (Lies w a (IV la)) := ha
  have HB : Hid (Lies w a' (IV lb)) := hb
  clear ha hb
  by_cases hl : la.length = lb.length
  · have hlb : ((la.length : Int) != (lb.length : Int)) = false := by simp [hl]
    have HL : Hid (la.length = lb.length) := hl
    clear hl
    go_enter Try.func18, Try.ntmps18
    go_wp2
    go_loopw [5] (fun i wr => ∃ k n : Nat, k ≤ la.length ∧ i = .int .i64 k ∧ wr = w.drewN n ∧ la.take k = lb.take k) (fun i _ => la.length - (intOf i).toNat)
    case atStart => exact ⟨0, 0, by omega, rfl, rfl, by simp⟩
    case round =>
      obtain ⟨k, n, hk, rfl, rfl, ht⟩ := hrel
      have HT : Hid (la.take k = lb.take k) := ht
      clear ht
      by_cases hlt : k < la.length
      · have hlt2 : k < lb.length := by have := HL.out; omega
        obtain ⟨b, off, rfl, hc⟩ := HA.out k (by simpa [IV] using hlt)
        obtain ⟨b', off', rfl, hc'⟩ := HB.out k (by simpa [IV] using hlt2)
        rw [show (IV la)[k]'(by simpa [IV] using hlt) = .int .i64 la[k] from by simp [IV]] at hc
        rw [show (IV lb)[k]'(by simpa [IV] using hlt2) = .int .i64 lb[k] from by simp [IV]] at hc'
        by_cases he : la[k] = lb[k]
        · have hbn : (la[k] != lb[k]) = false := by simp [he]
          go_wp2
          go_quiet (fail)
          go_wp2
          go_roundw
          case rel => exact ⟨k + 1, n + nq, by omega, by go_num, by simp, takeI_step hlt hlt2 HT.out he⟩
          case measure => simp [intOf]; omega
        · have hbn : (la[k] != lb[k]) = true := by rw [bne_iff_ne]; exact he
          go_wp2
          go_quiet (fail)
          go_wp2
          go_ret
          exact ⟨ret_bool (by rw [eq_comm, decide_eq_false_iff_not]; rintro rfl; exact he rfl), n + nq, by simp⟩
      · go_wp2
        go_ret
        exact ⟨ret_bool (by have h1 := HT.out; have h2 := HL.out; rw [eq_comm, decide_eq_true_iff]; rwa [List.take_of_length_le (by omega), List.take_of_length_le (by omega)] at h1), _, rfl⟩
  · have hlb : ((la.length : Int) != (lb.length : Int)) = true := by rw [bne_iff_ne]; omega
    go_enter Try.func18, Try.ntmps18
    go_wp2
    go_ret
    exact ⟨ret_bool (by rw [eq_comm, decide_eq_false_iff_not]; rintro rfl; exact hl rfl), 0, rfl⟩
theorem sameInts_yes (a a' : Option Addr) (c c' n n' : Nat) (la : List Int) (w : World) (ha : Lies w a (IV la)) (hb : Lies w a' (IV la)) (hla : la.length = n) (hlb : la.length = n') (hn : n ≤ maxLen) :
    Calls Try.prog 18 #[.slice a n c, .slice a' n' c'] w fun e w' => e = .returned (.bool true) ∧ w.grownBy w' none := by
  subst hla; subst hlb
  refine (sameInts_any a a' c c' la la w ha hb hn).mono fun e w' ⟨h1, q, h2⟩ => ⟨by rw [h1]; simp, h2 ▸ grownBy_drewN _ _ _⟩
theorem same_yes_g (a a' : Option Addr) (c c' n n' : Nat) (la : List UInt8) (w : World) (ha : BLies w a la) (hb : BLies w a' la) (hla : la.length = n) (hlb : la.length = n') (hn : n ≤ maxLen) :
    Calls Try.prog 12 #[.slice a n c, .slice a' n' c'] w fun e w' => e = .returned (.bool true) ∧ w.grownBy w' none :=
  (same_yes a a' c c' n n' la w ha hb hla hlb hn).mono fun e w' ⟨h1, q, h2⟩ => ⟨h1, h2 ▸ grownBy_drewN _ _ _⟩

set_option maxRecDepth 100000 in
set_option maxHeartbeats 1000000 in
theorem sameReply_yes (K : Int) (an an' ab ab' : Option Addr) (n n' cn cn' m m' cb cb' : Nat) (ns : List Int) (bs : List UInt8) (w : World) (h1 : Lies w an (IV ns)) (h2 : Lies w an' (IV ns)) (h3 : BLies w ab bs) (h4 : BLies w ab' bs)
    (e1 : ns.length = n) (e2 : ns.length = n') (e3 : bs.length = m) (e4 : bs.length = m') (hn : n ≤ maxLen) (hm : m ≤ maxLen) :
    Calls Try.prog 11 #[.agg #[.int .u8 K, .slice an n cn, .slice ab m cb], .agg #[.int .u8 K, .slice an' n' cn', .slice ab' m' cb']] w fun e w' => e = .returned (.bool true) ∧ w.grownBy w' none := by
  have HI := Lib.hid (fun W (hW : w.grownBy W none) => sameInts_yes an an' cn cn' n n' ns W (h1.grown hW) (h2.grown hW) e1 e2 hn)
  have HB := Lib.hid (fun W (hW : w.grownBy W none) => same_yes_g ab ab' cb cb' m m' bs W (h3.grown hW) (h4.grown hW) e3 e4 hm)
  clear h1 h2 h3 h4 e1 e2 e3 e4 hn hm
  go_enter Try.func11, Try.ntmps11
  go_upto_region 1 with (first
    | (refine wpList_boxed rfl rfl #[.int .u8 K, .slice an n cn, .slice ab m cb] rfl ?_; intro w1 hs g hr; have G1 := Lib.hid g; have R1 := Lib.hid hr; clear hs g hr)
    | (refine wpList_boxed rfl rfl #[.int .u8 K, .slice an' n' cn', .slice ab' m' cb'] rfl ?_; intro w2 hs g hr; have G2 := Lib.hid (grownBy_trans G1.out g); have R2 := Lib.hid (R1.out.grown g); have R3 := Lib.hid hr; clear hs g hr))
  obtain ⟨b1, hb1⟩ : ∃ b1, b1 = w.heap.size := ⟨_, rfl⟩
  obtain ⟨b2, hb2⟩ : ∃ b2, b2 = w1.heap.size := ⟨_, rfl⟩
  rw [← hb1] at R2 ⊢
  rw [← hb2] at R3 ⊢
  have HB1 := Lib.hid hb1
  clear hb1 hb2 R1
  have c0 := Row.cell R2.out 0
  have c1 := Row.cell R2.out 1
  have c2 := Row.cell R2.out 2
  have d0 := Row.cell R3.out 0
  have d1 := Row.cell R3.out 1
  have d2 := Row.cell R3.out 2
  simp at c0 c1 c2 d0 d1 d2
  go_wp2_with fail
  refine (HI.out w2 G2.out).mono ?_
  rintro e w3 ⟨rfl, g⟩
  have G3 := Lib.hid (grownBy_trans G2.out g)
  have c2' := Row.cell (R2.out.grown g) 2
  have d2' := Row.cell (R3.out.grown g) 2
  simp at c2' d2'
  clear c0 c1 c2 d0 d1 d2 g
  go_wp2_with fail
  refine (HB.out w3 G3.out).mono ?_
  rintro e w4 ⟨rfl, g⟩
  have G4 := Lib.hid (grownBy_trans G3.out g)
  clear c2' d2' g
  go_wp2_with fail
  go_ret
  exact ⟨rfl, G4.out⟩
end Go.Proofs.Ytkdmebcfedehiaa
/- The law WireTells. Printed by gens/wiretells.py. -/
namespace Go.Proofs.Ytkdmebcfedehiaa
open Go.RowKit

theorem wpList_load_rowW {P : Program} {ops : Array Oper} {rest : List Oper} {o : Oper} {a : Act} {w : World} {Q : Exit → Act → World → Prop} (hw : Region.wanted o (yielded ops a.tmps) = true) (ty : TypeId) (x : Operand) (ho : o.op = .load ty x)
    (g : Nat) (hx : a.eval x = .pointer (some ⟨g, 0, none⟩)) (t : TypeId) (cs : Array Value) (fr : Nat × Nat) (d : TypeDesc) (hg : w.heap[g]? = some (.cells cs t fr))
    (hu : P.underlying ty = some d) (hd : (match d with | .struct _ | .array _ _ => true | _ => false) = true) (hi : (P.info? ty).map (·.size) = some cs.size)
    (h : wpList P ops Q rest (a.put o.dst (.agg cs)) w) : wpList P ops Q (o :: rest) a w := by
  unfold wpList
  rw [if_pos hw]
  exact .inl (wp_load_row ty x ho g hx t cs fr d hg hu hd hi h)
theorem mayR_kind {r : Rp} (h : mayR r = true) : r.kind ≤ 7 := by
  unfold mayR at h
  split at h
  · cases h
  · split at h
    · omega
    · split at h
      · omega
      · rw [Bool.and_eq_true, decide_eq_true_eq, decide_eq_true_eq] at h; omega
theorem encR_len {r : Rp} (h : mayR r = true) : (encR r).length ≤ 131077 := by
  obtain ⟨k, ns, bs⟩ := r
  unfold encR
  by_cases h1 : k = 1
  · subst h1
    simp only [↓reduceIte, List.length_cons, List.length_map]
    have hb : bs = [] := by
      rcases Nat.eq_zero_or_pos bs.length with h0 | h0
      · exact List.eq_nil_of_length_eq_zero h0
      · rw [mayR_1b ns h0] at h; cases h
    subst hb
    rw [mayR_1] at h
    have := incr_len ns (-1) h (by omega)
    omega
  · simp only [if_neg h1]
    by_cases h5 : k = 5
    · subst h5
      simp only [↓reduceIte, List.length_cons, List.length_append, bigL_length]
      have hn : ns = [] := by
        rcases Nat.eq_zero_or_pos ns.length with h0 | h0
        · exact List.eq_nil_of_length_eq_zero h0
        · rw [mayR_n h1 h0] at h; cases h
      subst hn
      rw [mayR_5, Bool.and_eq_true, decide_eq_true_eq, decide_eq_true_eq] at h
      omega
    · simp only [if_neg h5, List.length_cons, List.length_nil]
      omega
theorem putE_yes {r : Rp} (h : mayR r = true) : putE r = 0 := if_pos h
theorem putL_yes {r : Rp} (h : mayR r = true) : putL r = encR r := if_pos h
theorem putE_no {r : Rp} (h : ¬ mayR r = true) : putE r = 201 := if_neg h

set_option maxRecDepth 100000 in
set_option maxHeartbeats 4000000 in
theorem tells_walk (K : Int) (k n cn m cb : Nat) (an ab : Option Addr) (ns : List Int) (bs : List UInt8) (a : Option Addr) (nb c : Nat) (l : List UInt8) (w : World) (hK : K = (k : Int)) (hk : k < 256) (hns : Lies w an (IV ns)) (hbs : BLies w ab bs) (hn : ns.length = n) (hm : bs.length = m) (hnm : n ≤ maxLen) (hmm : m ≤ maxLen)
    (hl : BLies w a l) (hln : l.length = nb) (hc : nb ≤ c) (hlm : nb ≤ 140737488355328) :
    Calls Try.prog 3 #[.agg #[.int .u8 K, .slice an n cn, .slice ab m cb], .slice a nb c] w fun e w' => e = .returned (.bool true) ∧ w.grownBy w' none := by
  obtain ⟨ir, zr, hir, hirz, hirs, hz⟩ := info_rep
  subst hz
  have HNS := Lib.hid hns
  have HBS := Lib.hid hbs
  have HN := Lib.hid hn
  have HM := Lib.hid hm
  have HNM := Lib.hid hnm
  have HMM := Lib.hid hmm
  have HLN := Lib.hid hln
  have HPR := Lib.hid (fun W (hW : w.grownBy W none) => putReply_n K k n cn m cb an ab ns bs W hK hk (hns.grown hW) (hbs.grown hW) hn hm hnm hmm)
  have HRB := Lib.hid (fun W (hW : w.grownBy W none) => reply_n a nb c l W (hl.grown hW) hln hc hlm)
  have HL := Lib.hid hl
  have HLM := Lib.hid hlm
  have HKK := Lib.hid hK
  clear hns hbs hn hm hnm hmm hl hln hc hlm hK
  go_enter Try.func3, Try.ntmps3
  go_wp2_with (refine wpList_boxed rfl rfl #[.int .u8 K, .slice an n cn, .slice ab m cb] rfl ?_; intro wb hsb hgb hrb; have HB := Lib.hid hrb; have HG := Lib.hid hgb; clear hsb hgb hrb)
  refine (lives_n wb).mono ?_
  rintro e w1 ⟨rfl, g⟩
  have G1 := Lib.hid (grownBy_trans HG.out g)
  have B1 := Lib.hid (HB.out.grown g)
  clear g
  obtain ⟨bx, hbx⟩ : ∃ bx, bx = w.heap.size := ⟨_, rfl⟩
  rw [← hbx] at B1 ⊢
  clear hbx HB
  go_wp2_with (refine wpList_load_row rfl 26 _ rfl bx rfl 26 #[.int .u8 K, .slice an n cn, .slice ab m cb] (0, 0) _ B1.out Try.underlying26 rfl (by kernel_rfl) ?_)
  refine (HPR.out w1 G1.out).mono ?_
  rintro e w2 ⟨a1, n1, c1, he, ho, g⟩
  have G2 := Lib.hid (grownBy_trans G1.out g)
  have B2 := Lib.hid (B1.out.grown g)
  have O2 := Lib.hid ho
  clear g ho
  by_cases hmay : mayR ⟨k, ns, bs⟩ = true
  · rw [putE_yes hmay] at he
    subst he
    rw [putL_yes hmay] at O2
    have HX1 := Lib.hid (show Calls Try.prog 10 #[.slice a1 n1 c1] w2 fun e w' => ∃ x1 xn xc y1 yn yc, e = .returned (.tuple #[.agg #[.int .u8 K, .slice x1 xn xc, .slice y1 yn yc], .int .i64 0, .int .i64 0]) ∧ IOwn w' w2.heap.size x1 xn xc ns ∧ BOwn w' w2.heap.size y1 yn yc bs ∧ w2.grownBy w' none from by
      have hl1 := O2.out.len
      have hl2 := encR_len hmay
      refine (reply_n a1 n1 c1 (encR ⟨k, ns, bs⟩) w2 O2.out.lies hl1 O2.out.cap.1 (by omega)).mono fun e w' h => ?_
      rw [dec_enc _ hmay] at h
      obtain ⟨x1, xn, xc, y1, yn, yc, e1, h2, h3, g⟩ := h
      exact ⟨x1, xn, xc, y1, yn, yc, by rw [HKK.out]; exact e1, h2, h3, g⟩)
    clear hmay
    go_wp2_with fail
    refine HX1.out.mono ?_
    rintro e w3 ⟨x1, xn, xc, y1, yn, yc, rfl, oi, ob, g⟩
    have G3 := Lib.hid (grownBy_trans G2.out g)
    have B3 := Lib.hid (B2.out.grown g)
    have OI := Lib.hid oi
    have OB := Lib.hid ob
    clear g oi ob
    go_upto_region 6 with (refine wpList_fresh rfl rfl rfl rfl rfl hir hirz hirs #[.int .u8 K, .slice x1 xn xc, .slice y1 yn yc] rfl rfl rfl (by simp [Value.oneCell']) ?_; intro w4 hs g hr; have G4 := Lib.hid (grownBy_trans G3.out g); have R4 := Lib.hid hr; have B4 := Lib.hid (B3.out.grown g); have OI4 := Lib.hid (show IOwn w4 _ _ _ _ _ from Own.ch OI.out (Ch.ofNone g (fun _ => False)) (fun _ _ _ h => h)); have OB4 := Lib.hid (BOwn.grown OB.out g); clear hs g hr)
    obtain ⟨b4, hb4⟩ : ∃ b4, b4 = w3.heap.size := ⟨_, rfl⟩
    rw [← hb4] at R4 ⊢
    clear hb4
    have HS := Lib.hid (sameReply_yes K x1 an y1 ab xn n xc cn yn m yc cb ns bs w4 OI4.out.lies (HNS.out.grown G4.out) OB4.out.lies (HBS.out.grown G4.out) OI4.out.len HN.out OB4.out.len HM.out (by have := Own.cap OI4.out; omega) (by have := OB4.out.cap; omega))
    go_wp2_with (first | (refine wpList_load_rowW (by rfl) 26 _ rfl b4 rfl 26 #[.int .u8 K, .slice x1 xn xc, .slice y1 yn yc] (0, 0) _ R4.out Try.underlying26 rfl (by kernel_rfl) ?_) | (refine wpList_load_rowW (by rfl) 26 _ rfl bx rfl 26 #[.int .u8 K, .slice an n cn, .slice ab m cb] (0, 0) _ B4.out Try.underlying26 rfl (by kernel_rfl) ?_))
    refine HS.out.mono ?_
    rintro e w5 ⟨rfl, g⟩
    have G5 := Lib.hid (grownBy_trans G4.out g)
    clear g
    cases hd : decR l with
    | error p =>
      have hp := dec_place l p hd
      have h0p : decide ((0 : Int) ≤ (p : Int)) = true := decide_eq_true (by omega)
      have hpn : decide ((p : Int) ≤ (nb : Int)) = true := decide_eq_true (by have := HLN.out; omega)
      have hpn2 : decide (p ≤ nb) = true := decide_eq_true (by have := HLN.out; omega)
      have HX := Lib.hid (show Calls Try.prog 10 #[.slice a nb c] w5 fun e w' => ∃ x1 xn xc y1 yn yc, e = .returned (.tuple #[.agg #[.int .u8 0, .slice x1 xn xc, .slice y1 yn yc], .int .i64 (p : Int), .int .i64 201]) ∧ (w5).grownBy w' none from (HRB.out w5 G5.out).mono fun e w' h => by
        rw [hd] at h
        obtain ⟨x1, xn, xc, y1, yn, yc, e1, _, _, g⟩ := h
        exact ⟨x1, xn, xc, y1, yn, yc, e1, g⟩)
      clear hp hd
      go_wp2_with fail
      refine HX.out.mono ?_
      rintro e wu ⟨x1, xn, xc, y1, yn, yc, rfl, g⟩
      have GU := Lib.hid (grownBy_trans G5.out g)
      clear g
      go_upto_region 9 with (refine wpList_fresh rfl rfl rfl rfl rfl hir hirz hirs #[.int .u8 0, .slice x1 xn xc, .slice y1 yn yc] rfl rfl rfl (by simp [Value.oneCell']) ?_; intro wv hs g hr; have GV := Lib.hid (grownBy_trans GU.out g); have RV := Lib.hid hr; clear hs g hr)
      have k0 := Row.cell RV.out 0
      simp at k0
      go_wp2_with fail
      go_ret
      exact ⟨rfl, GV.out⟩
    | ok x =>
      obtain ⟨hmx, hex⟩ := enc_dec l x hd
      obtain ⟨K2, hK2⟩ : ∃ K2 : Int, K2 = (x.kind : Int) := ⟨_, rfl⟩
      have HX := Lib.hid (show Calls Try.prog 10 #[.slice a nb c] w5 fun e w' => ∃ x1 xn xc y1 yn yc, e = .returned (.tuple #[.agg #[.int .u8 K2, .slice x1 xn xc, .slice y1 yn yc], .int .i64 0, .int .i64 0]) ∧ IOwn w' (w5).heap.size x1 xn xc x.nums ∧ BOwn w' (w5).heap.size y1 yn yc x.bytes ∧ (w5).grownBy w' none from (HRB.out w5 G5.out).mono fun e w' h => by
        rw [hd] at h
        obtain ⟨x1, xn, xc, y1, yn, yc, e1, h2, h3, g⟩ := h
        exact ⟨x1, xn, xc, y1, yn, yc, by rw [hK2]; exact e1, h2, h3, g⟩)
      have HP2 := Lib.hid (show ∀ W xn xc yn yc x1 y1, IOwn W (w5).heap.size x1 xn xc x.nums → BOwn W (w5).heap.size y1 yn yc x.bytes → Calls Try.prog 9 #[.agg #[.int .u8 K2, .slice x1 xn xc, .slice y1 yn yc]] W fun e w' => ∃ a' n' c', e = .returned (.tuple #[.slice a' n' c', .int .i64 0]) ∧ BOwn w' W.heap.size a' n' c' l ∧ W.grownBy w' none from fun W xn xc yn yc x1 y1 h1 h2 => by
        have h := putReply_n K2 x.kind xn xc yn yc x1 y1 x.nums x.bytes W hK2 (by have := mayR_kind hmx; omega) h1.lies h2.lies h1.len h2.len (by have := Own.cap h1; omega) (by have := h2.cap; omega)
        rw [putE_yes hmx, putL_yes hmx, hex] at h
        exact h)
      clear hmx hex hd hK2
      go_wp2_with fail
      refine HX.out.mono ?_
      rintro e wu ⟨x1, xn, xc, y1, yn, yc, rfl, oi, ob, g⟩
      have GU := Lib.hid (grownBy_trans G5.out g)
      have OI := Lib.hid oi
      have OB := Lib.hid ob
      clear g oi ob
      go_upto_region 9 with (refine wpList_fresh rfl rfl rfl rfl rfl hir hirz hirs #[.int .u8 K2, .slice x1 xn xc, .slice y1 yn yc] rfl rfl rfl (by simp [Value.oneCell']) ?_; intro wv hs g hr; have GV := Lib.hid (grownBy_trans GU.out g); have RV := Lib.hid hr; have OIV := Lib.hid (show IOwn wv _ _ _ _ _ from Own.ch OI.out (Ch.ofNone g (fun _ => False)) (fun _ _ _ h => h)); have OBV := Lib.hid (BOwn.grown OB.out g); clear hs g hr)
      obtain ⟨bv, hbv⟩ : ∃ bv, bv = wu.heap.size := ⟨_, rfl⟩
      rw [← hbv] at RV ⊢
      clear hbv
      go_wp2_with (refine wpList_load_row rfl 26 _ rfl bv rfl 26 #[.int .u8 K2, .slice x1 xn xc, .slice y1 yn yc] (0, 0) _ RV.out Try.underlying26 rfl (by kernel_rfl) ?_)
      refine (HP2.out wv _ _ _ _ _ _ OIV.out OBV.out).mono ?_
      rintro e wz ⟨a9, n9, c9, rfl, o9, g⟩
      have GZ := Lib.hid (grownBy_trans GV.out g)
      have HS9 := Lib.hid (same_yes_g a9 a c9 c n9 nb l wz o9.lies (HL.out.grown GZ.out) o9.len HLN.out (by have := o9.cap; omega))
      clear g o9
      go_wp2_with fail
      refine HS9.out.mono ?_
      rintro e we ⟨rfl, g⟩
      have GE := Lib.hid (grownBy_trans GZ.out g)
      clear g
      go_wp2_with fail
      go_ret
      exact ⟨rfl, GE.out⟩
  · rw [putE_no hmay] at he
    subst he
    clear hmay
    cases hd : decR l with
    | error p =>
      have hp := dec_place l p hd
      have h0p : decide ((0 : Int) ≤ (p : Int)) = true := decide_eq_true (by omega)
      have hpn : decide ((p : Int) ≤ (nb : Int)) = true := decide_eq_true (by have := HLN.out; omega)
      have hpn2 : decide (p ≤ nb) = true := decide_eq_true (by have := HLN.out; omega)
      have HX := Lib.hid (show Calls Try.prog 10 #[.slice a nb c] w2 fun e w' => ∃ x1 xn xc y1 yn yc, e = .returned (.tuple #[.agg #[.int .u8 0, .slice x1 xn xc, .slice y1 yn yc], .int .i64 (p : Int), .int .i64 201]) ∧ (w2).grownBy w' none from (HRB.out w2 G2.out).mono fun e w' h => by
        rw [hd] at h
        obtain ⟨x1, xn, xc, y1, yn, yc, e1, _, _, g⟩ := h
        exact ⟨x1, xn, xc, y1, yn, yc, e1, g⟩)
      clear hp hd
      go_wp2_with fail
      refine HX.out.mono ?_
      rintro e wu ⟨x1, xn, xc, y1, yn, yc, rfl, g⟩
      have GU := Lib.hid (grownBy_trans G2.out g)
      clear g
      go_upto_region 9 with (refine wpList_fresh rfl rfl rfl rfl rfl hir hirz hirs #[.int .u8 0, .slice x1 xn xc, .slice y1 yn yc] rfl rfl rfl (by simp [Value.oneCell']) ?_; intro wv hs g hr; have GV := Lib.hid (grownBy_trans GU.out g); have RV := Lib.hid hr; clear hs g hr)
      have k0 := Row.cell RV.out 0
      simp at k0
      go_wp2_with fail
      go_ret
      exact ⟨rfl, GV.out⟩
    | ok x =>
      obtain ⟨hmx, hex⟩ := enc_dec l x hd
      obtain ⟨K2, hK2⟩ : ∃ K2 : Int, K2 = (x.kind : Int) := ⟨_, rfl⟩
      have HX := Lib.hid (show Calls Try.prog 10 #[.slice a nb c] w2 fun e w' => ∃ x1 xn xc y1 yn yc, e = .returned (.tuple #[.agg #[.int .u8 K2, .slice x1 xn xc, .slice y1 yn yc], .int .i64 0, .int .i64 0]) ∧ IOwn w' (w2).heap.size x1 xn xc x.nums ∧ BOwn w' (w2).heap.size y1 yn yc x.bytes ∧ (w2).grownBy w' none from (HRB.out w2 G2.out).mono fun e w' h => by
        rw [hd] at h
        obtain ⟨x1, xn, xc, y1, yn, yc, e1, h2, h3, g⟩ := h
        exact ⟨x1, xn, xc, y1, yn, yc, by rw [hK2]; exact e1, h2, h3, g⟩)
      have HP2 := Lib.hid (show ∀ W xn xc yn yc x1 y1, IOwn W (w2).heap.size x1 xn xc x.nums → BOwn W (w2).heap.size y1 yn yc x.bytes → Calls Try.prog 9 #[.agg #[.int .u8 K2, .slice x1 xn xc, .slice y1 yn yc]] W fun e w' => ∃ a' n' c', e = .returned (.tuple #[.slice a' n' c', .int .i64 0]) ∧ BOwn w' W.heap.size a' n' c' l ∧ W.grownBy w' none from fun W xn xc yn yc x1 y1 h1 h2 => by
        have h := putReply_n K2 x.kind xn xc yn yc x1 y1 x.nums x.bytes W hK2 (by have := mayR_kind hmx; omega) h1.lies h2.lies h1.len h2.len (by have := Own.cap h1; omega) (by have := h2.cap; omega)
        rw [putE_yes hmx, putL_yes hmx, hex] at h
        exact h)
      clear hmx hex hd hK2
      go_wp2_with fail
      refine HX.out.mono ?_
      rintro e wu ⟨x1, xn, xc, y1, yn, yc, rfl, oi, ob, g⟩
      have GU := Lib.hid (grownBy_trans G2.out g)
      have OI := Lib.hid oi
      have OB := Lib.hid ob
      clear g oi ob
      go_upto_region 9 with (refine wpList_fresh rfl rfl rfl rfl rfl hir hirz hirs #[.int .u8 K2, .slice x1 xn xc, .slice y1 yn yc] rfl rfl rfl (by simp [Value.oneCell']) ?_; intro wv hs g hr; have GV := Lib.hid (grownBy_trans GU.out g); have RV := Lib.hid hr; have OIV := Lib.hid (show IOwn wv _ _ _ _ _ from Own.ch OI.out (Ch.ofNone g (fun _ => False)) (fun _ _ _ h => h)); have OBV := Lib.hid (BOwn.grown OB.out g); clear hs g hr)
      obtain ⟨bv, hbv⟩ : ∃ bv, bv = wu.heap.size := ⟨_, rfl⟩
      rw [← hbv] at RV ⊢
      clear hbv
      go_wp2_with (refine wpList_load_row rfl 26 _ rfl bv rfl 26 #[.int .u8 K2, .slice x1 xn xc, .slice y1 yn yc] (0, 0) _ RV.out Try.underlying26 rfl (by kernel_rfl) ?_)
      refine (HP2.out wv _ _ _ _ _ _ OIV.out OBV.out).mono ?_
      rintro e wz ⟨a9, n9, c9, rfl, o9, g⟩
      have GZ := Lib.hid (grownBy_trans GV.out g)
      have HS9 := Lib.hid (same_yes_g a9 a c9 c n9 nb l wz o9.lies (HL.out.grown GZ.out) o9.len HLN.out (by have := o9.cap; omega))
      clear g o9
      go_wp2_with fail
      refine HS9.out.mono ?_
      rintro e we ⟨rfl, g⟩
      have GE := Lib.hid (grownBy_trans GZ.out g)
      clear g
      go_wp2_with fail
      go_ret
      exact ⟨rfl, GE.out⟩
end Go.Proofs.Ytkdmebcfedehiaa
