/- Helpers and contracts of the proofs over this seat: CutBlocksL. Each states what a function of the program answers, or is plain Lean; its conditions stand in each statement. -/
import Derived.Test.YtfboddnpkaiifaaPtAA
import Derived.Test.YtfboddnpkaiifaaPtAB
import Derived.Test.YtfboddnpkaiifaaPtAC
import Derived.Test.YtfboddnpkaiifaaPtAD
set_option linter.unusedVariables false
/- The law CutBlocks. Printed by gens/cutblocksl.py. -/
namespace Go.Proofs.Ytfboddnpkaiifaa
open Go.RowKit

theorem wpList_valp' {P : Program} {ops : Array Oper} {Q : Exit → Act → World → Prop} {o : Oper} {rest : List Oper} {a : Act} {w w1 : World} {v : Value} (hg : o.guard = none) (hr : (execOp a.eval o).run P w = .ok (.value v) w1) (h : wpList P ops Q rest (a.put o.dst v) w1) : wpList P ops Q (o :: rest) a w := by
  refine wpList_plain hg fun K hK => ?_
  unfold Oper.wp
  rw [hr, Oper.upon_value]
  exact hK _ _ h
theorem LIs.lies' {w : World} {base : Nat} {a : Option Addr} {n c : Nat} {bs : List (List UInt8)} {L : List Sl} (h : LIs w base a n c bs L) : LLies w a L bs := by
  refine ⟨?_, h.len, fun i h1 h2 => ⟨(h.inner i h1 h2).lies, (h.inner i h1 h2).len.symm⟩⟩
  intro k hk
  obtain ⟨g, e, _, _, hc, _⟩ := Own.cell h.outer k hk
  exact ⟨g, 0, e, by rw [Nat.zero_add, hc]⟩
theorem bkR_len (l : List UInt8) (k : Int) : (bkR l k).length ≤ 255 ∧ ∀ b ∈ bkR l k, b.length ≤ l.length := by
  unfold bkR
  split
  · next h =>
    unfold bkE at h
    split at h
    · cases h
    · split at h
      · cases h
      · rename_i h1 h2
        unfold bkL
        refine ⟨by rw [List.length_map, List.length_range]; omega, fun b hb => ?_⟩
        rw [List.mem_map] at hb
        obtain ⟨i, _, rfl⟩ := hb
        unfold bkB
        rw [List.length_take]
        have h3 := upN_small (a := l.length) (b := k.toNat) (by omega)
        omega
  · simp

set_option maxRecDepth 100000 in
set_option maxHeartbeats 4000000 in
theorem blocksLaw_walk (a : Option Addr) (c m : Nat) (K : Int) (lb : List UInt8) (w : World) (ha : BLies w a lb) (hm : lb.length = m) (hm2 : m ≤ 1048576) :
    Calls Try.prog 3 #[.slice a m c, .int .i64 K] w fun e w' => e = .returned (.bool true) ∧ w.grownBy w' none := by
  obtain ⟨lo, hlo⟩ : ∃ lo, lo = (over (m + 70)).take m := ⟨_, rfl⟩
  have hlol : lo.length = m := by rw [hlo, List.length_take, over_length]; omega
  have hb1 := fun (a : Option Addr) (c : Nat) (W : World) (h : BLies W a lb) (hc : m ≤ c) => blocks_n a c m K lb W h hm hc
  have hr1 := fun (a : Option Addr) (c : Nat) (W : World) (h : BLies W a lb) => refBlocks_n a c m K lb W h hm (by omega)
  have hb2 := fun (a : Option Addr) (c : Nat) (W : World) (h : BLies W a lo) (hc : m ≤ c) => blocks_n a c m K lo W h hlol hc
  have hr2 := fun (a : Option Addr) (c : Nat) (W : World) (h : BLies W a lo) => refBlocks_n a c m K lo W h hlol (by omega)
  have bX := bkR_len lb K
  have bY := bkR_len lo K
  rw [hm] at bX
  rw [hlol] at bY
  generalize bkE K m = E at hb1 hr1 hb2 hr2
  generalize bkR lb K = X at hb1 hr1 bX
  generalize bkR lo K = Y at hb2 hr2 bY
  have HB1 := Lib.hid hb1
  have HR1 := Lib.hid hr1
  have HB2 := Lib.hid hb2
  have HR2 := Lib.hid hr2
  have BX := Lib.hid bX
  have BY := Lib.hid bY
  have HA := Lib.hid ha
  have HM := Lib.hid hm
  have HLO := Lib.hid hlo
  clear hb1 hr1 hb2 hr2 bX bY ha hm hlo hlol
  have HG := Lib.hid (World.grownBy.refl w none)
  go_enter Try.func3, Try.ntmps3
  go_wp2_with fail
  refine (lent_n _ _ _ lb _ (HA.out.grown HG.out) HM.out (by omega)).mono ?_
  rintro e w1 ⟨gB, cB, rfl, oF, g⟩
  have hccB := oF.cap.1
  have YgB : Hid (w.heap.size ≤ gB ∧ gB < w1.heap.size) := Lib.hid (by obtain ⟨g', e, h1, h2⟩ := Own.block oF (by omega); injection e with e; injection e with e; subst e; exact ⟨h1, h2⟩)
  have HFB := Lib.hid oF
  clear oF
  have Z1 := Lib.hid g.size
  replace HG := Lib.hid (grownBy_trans HG.out g)
  clear g
  have hpre := HFB.out.lies.take m
  rw [lent_take lb m HM.out] at hpre
  have HPRE := Lib.hid hpre
  clear hpre
  go_wp2_with (first | (refine wpList_valp' rfl (run_pre_op _ _ (.tmp 19) (.tmp 21) rfl gB (m + 70) cB m rfl rfl (by omega)) ?_))
  refine (HB1.out _ _ _ HPRE.out (by omega)).mono ?_
  rintro e w2 ⟨⟨ax, mx, cx, rfl, ho⟩, g⟩
  obtain rfl := ho.len
  obtain ⟨Lx, hl⟩ := ho.is
  have HLx := Lib.hid hl
  have WOx := Lib.hid hl.boxO
  have WLx := Lib.hid hl.boxI
  clear ho hl HPRE
  have Z2 := Lib.hid g.size
  replace HG := Lib.hid (grownBy_trans HG.out g)
  replace HFB := Lib.hid (BOwn.grown HFB.out g)
  clear g
  have hpre := HFB.out.lies.take m
  rw [lent_take lb m HM.out] at hpre
  have HPRE := Lib.hid hpre
  clear hpre
  go_wp2_with (first | (refine wpList_valp' rfl (run_pre_op _ _ (.tmp 28) (.tmp 30) rfl gB (m + 70) cB m rfl rfl (by omega)) ?_))
  refine (HB1.out _ _ _ HPRE.out (by omega)).mono ?_
  rintro e w3 ⟨⟨ay, my, cy, rfl, ho⟩, g⟩
  obtain rfl := ho.len
  obtain ⟨Ly, hl⟩ := ho.is
  have HLy := Lib.hid hl
  have WOy := Lib.hid hl.boxO
  have WLy := Lib.hid hl.boxI
  clear ho hl HPRE
  have Z3 := Lib.hid g.size
  replace HG := Lib.hid (grownBy_trans HG.out g)
  replace HFB := Lib.hid (BOwn.grown HFB.out g)
  replace HLx := Lib.hid (HLx.out.grown g)
  clear g
  go_wp2_with fail
  refine (kept_yes _ _ _ _ m _ lb _ (BOwn.lies HFB.out) (HA.out.grown HG.out) HM.out rfl (by omega)).mono ?_
  rintro e w4 ⟨rfl, g⟩
  have Z4 := Lib.hid g.size
  replace HG := Lib.hid (grownBy_trans HG.out g)
  replace HFB := Lib.hid (BOwn.grown HFB.out g)
  replace HLx := Lib.hid (HLx.out.grown g)
  replace HLy := Lib.hid (HLy.out.grown g)
  clear g
  go_wp2_with fail
  refine (over_n _ gB cB (m + 70) (lent lb) _ HFB.out (by omega)).mono ?_
  rintro e w5 ⟨rfl, oO, g⟩
  have Z5 := Lib.hid g.size
  replace HG := Lib.hid (grownBy_old HG.out g YgB.out.1)
  replace HFB := Lib.hid oO
  replace HLx := Lib.hid (LIs.ch HLx.out (Ch.ofSome (S := fun k => k = gB) g rfl) (fun g hi h => by
    have h1 := (Own.inn HLx.out.outer hi).1
    have y1 := YgB.out
    omega) (fun i hi g hg h => by
    have h1 := (Own.inn (HLx.out.inner i hi (by have := HLx.out.len; omega)) hg).1
    have y1 := YgB.out
    omega))
  replace HLy := Lib.hid (LIs.ch HLy.out (Ch.ofSome (S := fun k => k = gB) g rfl) (fun g hi h => by
    have h1 := (Own.inn HLy.out.outer hi).1
    have y1 := YgB.out; have z2 := Z2.out
    omega) (fun i hi g hg h => by
    have h1 := (Own.inn (HLy.out.inner i hi (by have := HLy.out.len; omega)) hg).1
    have y1 := YgB.out; have z2 := Z2.out
    omega))
  clear oO g
  go_wp2_with fail
  refine (HR1.out _ _ _ (HA.out.grown HG.out)).mono ?_
  rintro e w6 ⟨⟨aw, mw, cw, rfl, ho⟩, g⟩
  obtain rfl := ho.len
  obtain ⟨Lw, hl⟩ := ho.is
  have HLw := Lib.hid hl
  have WOw := Lib.hid hl.boxO
  have WLw := Lib.hid hl.boxI
  clear ho hl
  have Z6 := Lib.hid g.size
  replace HG := Lib.hid (grownBy_trans HG.out g)
  replace HFB := Lib.hid (BOwn.grown HFB.out g)
  replace HLx := Lib.hid (HLx.out.grown g)
  replace HLy := Lib.hid (HLy.out.grown g)
  clear g
  go_wp2_with fail
  refine (sameLists_yes ax aw cx cw X.length Lx Lw X _ (LIs.lies' HLx.out) (LIs.lies' HLw.out) rfl (by have := BX.out.1; unfold maxLen; omega) (fun p hp => by have := BX.out.2 p hp; unfold maxLen; omega)).mono ?_
  rintro e w7 ⟨rfl, q, hq⟩
  have g : w6.grownBy w7 none := by rw [hq]; exact grownBy_drewN _ _ _
  clear hq q
  have Z7 := Lib.hid g.size
  replace HG := Lib.hid (grownBy_trans HG.out g)
  replace HFB := Lib.hid (BOwn.grown HFB.out g)
  replace HLx := Lib.hid (HLx.out.grown g)
  replace HLy := Lib.hid (HLy.out.grown g)
  replace HLw := Lib.hid (HLw.out.grown g)
  clear g
  go_wp2_with fail
  refine (sameLists_yes ay aw cy cw X.length Ly Lw X _ (LIs.lies' HLy.out) (LIs.lies' HLw.out) rfl (by have := BX.out.1; unfold maxLen; omega) (fun p hp => by have := BX.out.2 p hp; unfold maxLen; omega)).mono ?_
  rintro e w8 ⟨rfl, q, hq⟩
  have g : w7.grownBy w8 none := by rw [hq]; exact grownBy_drewN _ _ _
  clear hq q
  have Z8 := Lib.hid g.size
  replace HG := Lib.hid (grownBy_trans HG.out g)
  replace HFB := Lib.hid (BOwn.grown HFB.out g)
  replace HLx := Lib.hid (HLx.out.grown g)
  replace HLy := Lib.hid (HLy.out.grown g)
  replace HLw := Lib.hid (HLw.out.grown g)
  clear g
  have hpre := HFB.out.lies.take m
  rw [← HLO.out] at hpre
  have HPRE := Lib.hid hpre
  clear hpre
  go_wp2_with (first | (refine wpList_valp' rfl (run_pre_op _ _ (.tmp 64) (.tmp 66) rfl gB (m + 70) cB m rfl rfl (by omega)) ?_))
  refine (HB2.out _ _ _ HPRE.out (by omega)).mono ?_
  rintro e w9 ⟨⟨az, mz, cz, rfl, ho⟩, g⟩
  obtain rfl := ho.len
  obtain ⟨Lz, hl⟩ := ho.is
  have HLz := Lib.hid hl
  have WOz := Lib.hid hl.boxO
  have WLz := Lib.hid hl.boxI
  clear ho hl HPRE
  have Z9 := Lib.hid g.size
  replace HG := Lib.hid (grownBy_trans HG.out g)
  replace HFB := Lib.hid (BOwn.grown HFB.out g)
  replace HLx := Lib.hid (HLx.out.grown g)
  replace HLy := Lib.hid (HLy.out.grown g)
  replace HLw := Lib.hid (HLw.out.grown g)
  clear g
  have hpre := HFB.out.lies.take m
  rw [← HLO.out] at hpre
  have HPRE := Lib.hid hpre
  clear hpre
  go_wp2_with (first | (refine wpList_valp' rfl (run_pre_op _ _ (.tmp 73) (.tmp 75) rfl gB (m + 70) cB m rfl rfl (by omega)) ?_))
  refine (HR2.out _ _ _ HPRE.out).mono ?_
  rintro e w10 ⟨⟨ao, mo, co, rfl, ho⟩, g⟩
  obtain rfl := ho.len
  obtain ⟨Lo, hl⟩ := ho.is
  have HLo := Lib.hid hl
  have WOo := Lib.hid hl.boxO
  have WLo := Lib.hid hl.boxI
  clear ho hl HPRE
  have Z10 := Lib.hid g.size
  replace HG := Lib.hid (grownBy_trans HG.out g)
  replace HFB := Lib.hid (BOwn.grown HFB.out g)
  replace HLx := Lib.hid (HLx.out.grown g)
  replace HLy := Lib.hid (HLy.out.grown g)
  replace HLw := Lib.hid (HLw.out.grown g)
  replace HLz := Lib.hid (HLz.out.grown g)
  clear g
  go_wp2_with fail
  refine (sameLists_yes az ao cz co Y.length Lz Lo Y _ (LIs.lies' HLz.out) (LIs.lies' HLo.out) rfl (by have := BY.out.1; unfold maxLen; omega) (fun p hp => by have := BY.out.2 p hp; unfold maxLen; omega)).mono ?_
  rintro e w11 ⟨rfl, q, hq⟩
  have g : w10.grownBy w11 none := by rw [hq]; exact grownBy_drewN _ _ _
  clear hq q
  have Z11 := Lib.hid g.size
  replace HG := Lib.hid (grownBy_trans HG.out g)
  replace HFB := Lib.hid (BOwn.grown HFB.out g)
  replace HLx := Lib.hid (HLx.out.grown g)
  replace HLy := Lib.hid (HLy.out.grown g)
  replace HLw := Lib.hid (HLw.out.grown g)
  replace HLz := Lib.hid (HLz.out.grown g)
  replace HLo := Lib.hid (HLo.out.grown g)
  clear g
  go_wp2_with fail
  refine (sameLists_yes ax aw cx cw X.length Lx Lw X _ (LIs.lies' HLx.out) (LIs.lies' HLw.out) rfl (by have := BX.out.1; unfold maxLen; omega) (fun p hp => by have := BX.out.2 p hp; unfold maxLen; omega)).mono ?_
  rintro e w12 ⟨rfl, q, hq⟩
  have g : w11.grownBy w12 none := by rw [hq]; exact grownBy_drewN _ _ _
  clear hq q
  have Z12 := Lib.hid g.size
  replace HG := Lib.hid (grownBy_trans HG.out g)
  replace HFB := Lib.hid (BOwn.grown HFB.out g)
  replace HLx := Lib.hid (HLx.out.grown g)
  replace HLy := Lib.hid (HLy.out.grown g)
  replace HLw := Lib.hid (HLw.out.grown g)
  replace HLz := Lib.hid (HLz.out.grown g)
  replace HLo := Lib.hid (HLo.out.grown g)
  clear g
  go_wp2_with fail
  have zr : w.heap.size ≤ w12.heap.size := HG.out.size
  have z1 := Z1.out
  have z2 := Z2.out
  have z3 := Z3.out
  have z4 := Z4.out
  have z5 := Z5.out
  have z6 := Z6.out
  have z7 := Z7.out
  have z8 := Z8.out
  have z9 := Z9.out
  have z10 := Z10.out
  have z11 := Z11.out
  have z12 := Z12.out
  refine (apartLists_lit w12 w.heap.size [⟨ax, X.length, cx⟩, ⟨ay, X.length, cy⟩, ⟨az, Y.length, cz⟩] [Lx, Ly, Lz] (fun | 0 => w1.heap.size | 1 => w2.heap.size | 2 => w8.heap.size | _ => w9.heap.size)
    (fun i hi => match i, hi with
      | 0, _ => (by show w1.heap.size ≤ w2.heap.size; omega)
      | 1, _ => (by show w2.heap.size ≤ w8.heap.size; omega)
      | 2, _ => (by show w8.heap.size ≤ w9.heap.size; omega)) (by show w.heap.size ≤ w1.heap.size; omega) (by omega)
    (fun i hi hi' => match i, hi, hi' with
      | 0, _, _ => ⟨⟨_, HLx.out⟩, WOx.out, WLx.out⟩
      | 1, _, _ => ⟨⟨_, HLy.out⟩, Sl.within_mono WOy.out (Nat.le_refl _) (by show _ ≤ w8.heap.size; omega), fun j hj => Sl.within_mono (WLy.out j hj) (Nat.le_refl _) (by show _ ≤ w8.heap.size; omega)⟩
      | 2, _, _ => ⟨⟨_, HLz.out⟩, WOz.out, WLz.out⟩) rfl 3 rfl (by omega) ?_ ?_).mono ?_
  · have h1 := HLx.out.len
    have h2 := HLy.out.len
    have h4 := HLz.out.len
    have h3 := BX.out.1
    have h5 := BY.out.1
    simp only [List.flatten_cons, List.flatten_nil, List.append_nil, List.length_append]
    omega
  · intro L hL s hs
    simp only [List.mem_cons, List.not_mem_nil, or_false] at hL
    rcases hL with rfl | rfl | rfl
    · obtain ⟨i, hi, rfl⟩ := List.getElem_of_mem hs
      have h1 := HLx.out.len
      have h2 := BOwn.len (HLx.out.inner i hi (by omega))
      have h3 := BX.out.2 _ (List.getElem_mem (show i < X.length by omega))
      omega
    · obtain ⟨i, hi, rfl⟩ := List.getElem_of_mem hs
      have h1 := HLy.out.len
      have h2 := BOwn.len (HLy.out.inner i hi (by omega))
      have h3 := BX.out.2 _ (List.getElem_mem (show i < X.length by omega))
      omega
    · obtain ⟨i, hi, rfl⟩ := List.getElem_of_mem hs
      have h1 := HLz.out.len
      have h2 := BOwn.len (HLz.out.inner i hi (by omega))
      have h3 := BY.out.2 _ (List.getElem_mem (show i < Y.length by omega))
      omega
  rintro e wy ⟨rfl, hbel⟩
  have GY := Lib.hid (grown_below (grownBy_trans HG.out (World.grownBy_alloc w12 (.cells (([⟨ax, X.length, cx⟩, ⟨ay, X.length, cy⟩, ⟨az, Y.length, cz⟩] : List Sl).map Sl.val).toArray 24) none)) hbel (Nat.le_refl _))
  clear hbel
  go_wp2_with fail
  refine (awake_n _).mono ?_
  rintro e wv ⟨rfl, g⟩
  have GV := Lib.hid (grownBy_trans GY.out g)
  clear g
  go_wp2_with fail
  refine bodyPost_ret (by simp [*, results, Try.results3, go_sem]; try rfl) rfl ?_
  exact ⟨rfl, GV.out⟩

end Go.Proofs.Ytfboddnpkaiifaa
