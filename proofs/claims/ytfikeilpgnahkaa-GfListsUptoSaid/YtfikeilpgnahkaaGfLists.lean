/- GfLists: the walk. -/
import Derived.Test.YtfikeilpgnahkaaGfScale
import Derived.Test.YtfikeilpgnahkaaApart2
namespace Go.Proofs.Ytfikeilpgnahkaa
open Go.RowKit

theorem hidtr {a b c : World} (h : Hid (a.grownBy b none)) (k : b.grownBy c none) : Hid (a.grownBy c none) := Lib.hid (grownBy_trans h.out k)

set_option maxRecDepth 100000 in
set_option maxHeartbeats 2000000 in
theorem lists_walk (a b : Option Addr) (ca cb n m : Nat) (la lb : List UInt8) (x : UInt8) (w : World) (ha : BLies w a la) (hb : BLies w b lb) (hla : la.length = n) (hlb : lb.length = m) (hn : n ≤ 1048576) (hm : m ≤ 1048576) :
    Calls Try.prog 4 #[.slice a n ca, .slice b m cb, .int .u8 (x.toNat : Int)] w fun e w' => e = .returned (.bool true) ∧ w.grownBy w' none := by
  have HA := Lib.hid ha
  have HB := Lib.hid hb
  have HLA := Lib.hid hla
  have HLB := Lib.hid hlb
  have n0 : n ≤ maxLen := by unfold maxLen; omega
  have m0 : m ≤ maxLen := by unfold maxLen; omega
  have N0 := Lib.hid n0
  have M0 := Lib.hid m0
  clear ha hb hla hlb n0 m0
  go_enter Try.func4, Try.ntmps4
  go_wp2_with fail
  refine (lent_n _ _ _ la _ HA.out HLA.out (by omega)).mono ?_
  rintro e w1 ⟨gA, cA, rfl, oA, g⟩
  have hcA := oA.cap.1
  have G0 := Lib.hid g
  have zA : w.heap.size ≤ gA := by obtain ⟨g', e, h1, _⟩ := Own.block oA (by omega); injection e with e; injection e with e; subst e; exact h1
  have yA : gA < w1.heap.size := by obtain ⟨g', e, _, h2⟩ := Own.block oA (by omega); injection e with e; injection e with e; subst e; exact h2
  have tA := oA.lies.take n
  rw [lent_take la n HLA.out] at tA
  have TA := Lib.hid tA
  have OA := Lib.hid oA
  have G1 : Hid (w1.grownBy w1 none) := Lib.hid (World.grownBy.refl _ _)
  clear g tA oA
  go_wp2_with fail
  refine (lent_n _ _ _ lb _ (HB.out.grown G0.out) HLB.out (by omega)).mono ?_
  rintro e w2 ⟨gB, cB, rfl, oB, g⟩
  have hcB := oB.cap.1
  have G0 := hidtr G0 g
  have G1 := hidtr G1 g
  have z2 : w1.heap.size ≤ w2.heap.size := g.size
  have tB := oB.lies.take m
  rw [lent_take lb m HLB.out] at tB
  have TB := Lib.hid tB
  have OB := Lib.hid oB
  clear g tB oB
  go_wp2_with fail
  go_quiet ((go_at_call 27; exact quietS (dot_n _ _ _ _ _ _ la lb _ ((TA.out.grown G1.out).drewN _) (TB.out.drewN _) HLA.out HLB.out N0.out M0.out)))
  have g : w2.grownBy (w2.drewN nq) none := grownBy_drewN _ _ _
  have G0 := hidtr G0 g
  have G1 := hidtr G1 g
  have G2 := Lib.hid g
  clear g
  go_wp2_with fail
  refine (scale_n _ _ _ la x _ (TA.out.grown G1.out) HLA.out (by omega)).mono ?_
  rintro e w3 ⟨aS, cS, rfl, oS, g⟩
  have OS := Lib.hid oS
  have G0 := hidtr G0 g
  have G1 := hidtr G1 g
  have G2 := hidtr G2 g
  have z3 : w2.heap.size ≤ w3.heap.size := g.size
  clear g oS
  go_wp2_with fail
  refine (scale_n _ _ _ la x _ (TA.out.grown G1.out) HLA.out (by omega)).mono ?_
  rintro e w4 ⟨aT, cT, rfl, oT, g⟩
  have OT := Lib.hid oT
  have G0 := hidtr G0 g
  have G1 := hidtr G1 g
  have G2 := hidtr G2 g
  have G3 := Lib.hid g
  have z4 : w3.heap.size ≤ w4.heap.size := g.size
  clear g oT
  go_wp2_with fail
  refine (eval_n _ _ _ la x _ (TA.out.grown G1.out) HLA.out N0.out).mono ?_
  rintro e w5 ⟨rfl, q5, rfl⟩
  have g : w4.grownBy (w4.drewN q5) none := grownBy_drewN _ _ _
  have G0 := hidtr G0 g
  have G1 := hidtr G1 g
  have G2 := hidtr G2 g
  have G3 := hidtr G3 g
  have G4 := Lib.hid g
  clear g
  go_wp2_with fail
  refine (kept_yes _ _ _ _ n _ la _ (OA.out.lies.grown G1.out) (HA.out.grown G0.out) HLA.out rfl (by omega)).mono ?_
  rintro e w6 ⟨rfl, g⟩
  have G0 := hidtr G0 g
  have G1 := hidtr G1 g
  have G2 := hidtr G2 g
  have G3 := hidtr G3 g
  have G4 := hidtr G4 g
  clear g
  go_wp2_with fail
  refine (kept_yes _ _ _ _ m _ lb _ (OB.out.lies.grown G2.out) (HB.out.grown G0.out) HLB.out rfl (by omega)).mono ?_
  rintro e w7 ⟨rfl, g⟩
  have G0 := hidtr G0 g
  have G1 := hidtr G1 g
  have G2 := hidtr G2 g
  have G3 := hidtr G3 g
  have G4 := hidtr G4 g
  clear g
  go_wp2_with fail
  refine (refDot_n _ _ _ _ _ _ la lb _ (HA.out.grown G0.out) (HB.out.grown G0.out) HLA.out HLB.out N0.out M0.out).mono ?_
  rintro e w8 ⟨rfl, q8, rfl⟩
  have g : w7.grownBy (w7.drewN q8) none := grownBy_drewN _ _ _
  have G0 := hidtr G0 g
  have G1 := hidtr G1 g
  have G2 := hidtr G2 g
  have G3 := hidtr G3 g
  have G4 := hidtr G4 g
  clear g
  have zW : w4.heap.size ≤ w7.heap.size := G4.out.size
  go_wp2_with fail
  refine (refScale_n _ _ _ la x _ (HA.out.grown G0.out) HLA.out (by omega)).mono ?_
  rintro e w9 ⟨aW, cW, rfl, oW, g⟩
  have OW := Lib.hid oW
  have G0 := hidtr G0 g
  have G1 := hidtr G1 g
  have G3 := hidtr G3 g
  have G4 := hidtr G4 g
  have z9 : w4.heap.size ≤ w9.heap.size := G4.out.size
  clear g oW G2
  go_wp2_with fail
  refine (refEval_n _ _ _ la x _ (HA.out.grown G0.out) HLA.out N0.out).mono ?_
  rintro e w' ⟨rfl, rfl⟩
  go_wp2_with fail
  refine (same_yes _ _ _ _ _ _ (scL x la) _ (OS.out.lies.grown G3.out) OW.out.lies (by rw [scL_length]; exact HLA.out) (by rw [scL_length]; exact HLA.out) N0.out).mono ?_
  rintro e w' ⟨rfl, q1, rfl⟩
  go_wp2_with fail
  refine (same_yes _ _ _ _ _ _ (scL x la) _ ((OT.out.lies.grown G4.out).drewN _) (OW.out.lies.drewN _) (by rw [scL_length]; exact HLA.out) (by rw [scL_length]; exact HLA.out) N0.out).mono ?_
  rintro e w' ⟨rfl, q2, rfl⟩
  go_wp2_with fail
  refine (over_n w.heap.size gA cA (n + 70) (lent la) _ ((OA.out.grown G1.out).drewN _) (by omega)).mono ?_
  rintro e wo ⟨rfl, oO, g⟩
  have hq : w9.grownBy (w9.drewN (q1 + q2)) none := grownBy_drewN _ _ _
  have G0 := Lib.hid (grownBy_old (grownBy_trans G0.out hq) g zA)
  have oS := Own.grownNe ((OS.out.grown G3.out).drewN (q1 + q2)) g (fun q _ hq hr => by
    obtain ⟨g', e1, h1, _⟩ := Own.block OS.out (by assumption)
    rw [hq] at e1; injection e1 with e1; injection e1 with e1; injection hr with hr
    have h2 : w2.heap.size ≤ g' := h1
    omega)
  have oT := Own.grownNe ((OT.out.grown G4.out).drewN (q1 + q2)) g (fun q _ hq hr => by
    obtain ⟨g', e1, h1, _⟩ := Own.block OT.out (by assumption)
    rw [hq] at e1; injection e1 with e1; injection e1 with e1; injection hr with hr
    have h2 : w3.heap.size ≤ g' := h1
    omega)
  have oW := Own.grownNe (OW.out.drewN (q1 + q2)) g (fun q _ hq hr => by
    obtain ⟨g', e1, h1, _⟩ := Own.block OW.out (by assumption)
    rw [hq] at e1; injection e1 with e1; injection e1 with e1; injection hr with hr
    have h2 : w7.heap.size ≤ g' := h1
    omega)
  have zo : w9.heap.size ≤ wo.heap.size := g.size
  have ws := OS.out.within
  have wt := OT.out.within
  have WS := Lib.hid ws
  have WT := Lib.hid wt
  have tO := oO.lies.take n
  obtain ⟨lo, hlo⟩ : ∃ lo, lo = (over (n + 70)).take n := ⟨_, rfl⟩
  rw [← hlo] at tO
  have hll : lo.length = n := by rw [hlo, List.length_take, over_length]; omega
  have HLL := Lib.hid hll
  have TO := Lib.hid tO
  have OS2 := Lib.hid oS
  have OT2 := Lib.hid oT
  have OW2 := Lib.hid oW
  clear g oS oT oW tO hll hlo hq oO ws wt OS OT OW G1 G3 G4 TA OA TB OB
  have hlw : (scL x la).length = n := by rw [scL_length]; exact HLA.out
  have hlo : (scL x lo).length = n := by rw [scL_length]; exact HLL.out
  have HLW := Lib.hid hlw
  have HLO := Lib.hid hlo
  clear hlw hlo
  go_wp2_with fail
  refine (scale_n _ _ _ lo x _ TO.out HLL.out (by omega)).mono ?_
  rintro e wu ⟨aU, cU, rfl, oU, g⟩
  have G0 := hidtr G0 g
  have GO := Lib.hid g
  have OU := Lib.hid oU
  have zu : wo.heap.size ≤ wu.heap.size := g.size
  clear g oU
  go_wp2_with fail
  refine (same_yes _ _ _ _ _ _ (scL x la) _ (BLies.grown (BOwn.lies OS2.out) GO.out) (BLies.grown (BOwn.lies OW2.out) GO.out) HLW.out HLW.out N0.out).mono ?_
  rintro e w' ⟨rfl, q3, rfl⟩
  have g : wu.grownBy (wu.drewN q3) none := grownBy_drewN _ _ _
  have G0 := hidtr G0 g
  have GO := hidtr GO g
  have GU := Lib.hid g
  clear g
  go_wp2_with fail
  refine (refScale_n _ _ _ lo x _ (TO.out.grown GO.out) HLL.out (by omega)).mono ?_
  rintro e wr ⟨aR, cR, rfl, oR, g⟩
  have G0 := hidtr G0 g
  have GO := hidtr GO g
  have GU := hidtr GU g
  have OR := Lib.hid oR
  clear g oR
  go_wp2_with fail
  refine (same_yes _ _ _ _ _ _ (scL x lo) _ (OU.out.lies.grown GU.out) OR.out.lies HLO.out HLO.out N0.out).mono ?_
  rintro e w' ⟨rfl, q4, rfl⟩
  have g : wr.grownBy (wr.drewN q4) none := grownBy_drewN _ _ _
  have G0 := hidtr G0 g
  have GO := hidtr GO g
  have GU := hidtr GU g
  clear g
  go_wp2_with fail
  have zr : w.heap.size ≤ (wr.drewN q4).heap.size := G0.out.size
  have hst := st1_lit (w := wr.drewN q4) (base := w.heap.size) (L := [⟨aS, n, cS⟩, ⟨aT, n, cT⟩, ⟨aU, n, cU⟩])
    (fun j hj => match j, hj with
      | 0, _ => ⟨_, (BOwn.grown OS2.out GO.out).mono (by show _ ≤ w2.heap.size; omega)⟩
      | 1, _ => ⟨_, (BOwn.grown OT2.out GO.out).mono (by omega)⟩
      | 2, _ => ⟨_, (OU.out.grown GU.out).mono (by omega)⟩) zr 3 rfl (by decide)
  have hd : Distinct [⟨aS, n, cS⟩, ⟨aT, n, cT⟩, ⟨aU, n, cU⟩] := distinct_of _ (fun | 0 => w2.heap.size | 1 => w3.heap.size | 2 => wo.heap.size | _ => wu.heap.size)
    (fun i hi => match i, hi with
      | 0, _ => z3
      | 1, _ => (by show w3.heap.size ≤ wo.heap.size; omega)
      | 2, _ => zu)
    (fun i hi => match i, hi with
      | 0, _ => WS.out
      | 1, _ => (fun q hq => by obtain ⟨h1, h2⟩ := WT.out q hq; exact ⟨h1, by show q < wo.heap.size; omega⟩)
      | 2, _ => OU.out.within)
  refine (apart_n _ _ _ 3 _ _ hst (by have h0 : w.heap.size ≤ wr.heap.size := zr; simp; omega) hd rfl (by omega) (fun j hj => match j, hj with
      | 0, _ => (by show n ≤ 100000000; omega)
      | 1, _ => (by show n ≤ 100000000; omega)
      | 2, _ => (by show n ≤ 100000000; omega))).mono ?_
  rintro e w6' ⟨rfl, hbel⟩
  have G6 := Lib.hid (grown_below (grownBy_trans G0.out (World.grownBy_alloc (wr.drewN q4) (.cells ([(⟨aS, n, cS⟩ : Sl), ⟨aT, n, cT⟩, ⟨aU, n, cU⟩].map Sl.val).toArray 33) none)) hbel (Nat.le_refl _))
  clear hbel hd hst
  go_wp2_with fail
  go_ret
  exact ⟨rfl, G6.out⟩

end Go.Proofs.Ytfikeilpgnahkaa
