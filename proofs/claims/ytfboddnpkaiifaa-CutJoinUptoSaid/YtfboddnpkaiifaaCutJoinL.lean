/- The law CutJoin. -/
import Derived.Test.YtfboddnpkaiifaaCutJoinN
import Derived.Test.YtfboddnpkaiifaaOverLists
import Derived.Test.YtfboddnpkaiifaaCutAwake
import Derived.Test.YtfboddnpkaiifaaApart2
namespace Go.Proofs.Ytfboddnpkaiifaa
open Go.RowKit

theorem jnR_len (bs : List (List UInt8)) (z : Int) : (jnR bs z).length ≤ 100000000 := by
  unfold jnR
  split
  · next h =>
    obtain ⟨h1, h2, h3, h4, _⟩ := h
    have h5 := upN_small (a := 65536) (b := bs.length) h1
    have h6 : bs.length * upN 65536 bs.length ≤ 255 * 65536 := Nat.mul_le_mul h2 h5
    rw [List.length_take]
    omega
  · simp

set_option maxRecDepth 100000 in
set_option maxHeartbeats 4000000 in
theorem joinLaw_walk (a : Option Addr) (c n : Nat) (z : Int) (L : List Sl) (bs : List (List UInt8)) (w : World) (ha : LLies w a L bs) (hn : bs.length = n) (hb : ∀ b ∈ bs, b.length ≤ 4000000000) (hn2 : n ≤ 4000000000) :
    Calls Try.prog 4 #[.slice a n c, .int .i64 z] w fun e w' => e = .returned (.bool true) ∧ w.grownBy w' none := by
  obtain ⟨il, hil, hilz, hils, _⟩ := info_parts (show (Try.prog.info? 36).map (fun i => (i.zero, i.size, i.bytes)) = some (some (.agg #[.slice none 0 0, .slice none 0 0, .slice none 0 0]), 3, 72) by kernel_rfl)
  have hj1 := fun (a : Option Addr) (c : Nat) (L : List Sl) (W : World) (h : LLies W a L bs) => join_n a c n z L bs W h hn
  have hr1 := fun (a : Option Addr) (c : Nat) (L : List Sl) (W : World) (h : LLies W a L bs) => refJoin_n a c n z L bs W h hn
  obtain ⟨bo, hbo⟩ : ∃ bo, bo = List.replicate n ([1, 2, 3] : List UInt8) := ⟨_, rfl⟩
  have hbon : bo.length = n := by rw [hbo, List.length_replicate]
  have hj2 := fun (a : Option Addr) (c : Nat) (L : List Sl) (W : World) (h : LLies W a L bo) => join_n a c n z L bo W h hbon
  have hr2 := fun (a : Option Addr) (c : Nat) (L : List Sl) (W : World) (h : LLies W a L bo) => refJoin_n a c n z L bo W h hbon
  have hb1 := jnR_len bs z
  have hb2 := jnR_len bo z
  generalize jnE bs z = E1 at hj1 hr1
  generalize jnR bs z = X at hj1 hr1 hb1
  generalize jnE bo z = E2 at hj2 hr2
  generalize jnR bo z = Y at hj2 hr2 hb2
  have HJ1 := Lib.hid hj1
  have HR1 := Lib.hid hr1
  have HJ2 := Lib.hid hj2
  have HR2 := Lib.hid hr2
  have HB1 := Lib.hid hb1
  have HB2 := Lib.hid hb2
  have HA := Lib.hid ha
  have HN := Lib.hid hn
  have HB := Lib.hid hb
  have HBO := Lib.hid hbo
  clear hj1 hr1 hj2 hr2 hb1 hb2 ha hn hb hbo hbon
  go_enter Try.func4, Try.ntmps4
  go_wp2_with fail
  refine (lentLists_n a c n L bs w HA.out HN.out HB.out hn2).mono ?_
  rintro e w1 ⟨aF, cF, aE, cE, Es, Ms, rfl, hE, hF, hMl, hM, g⟩
  have hcF := (Own.cap hF).1
  obtain ⟨gF, haF, hgF1, hgF2⟩ := Own.block hF (by omega)
  subst haF
  have HE0 := Lib.hid hE
  have HF0 := Lib.hid hF
  have HTE : Hid (∀ i (h : i < Es.length) g, In (Es[i]).a (Es[i]).c g → g < w1.heap.size) := Lib.hid (fun i h g hi => (Own.inn (hE.inner i h (by have := hE.len; omega)) hi).2)
  have HM0 := Lib.hid hM
  have HML := Lib.hid hMl
  have HG := Lib.hid g
  have Z1 := Lib.hid g.size
  clear hE hF hM hMl g
  go_upto_region 2 with (refine wpList_fresh rfl rfl rfl rfl rfl hil hilz (by rw [hils]; rfl) #[.slice (some ⟨gF, 0, none⟩) n cF, .slice (some ⟨gF, 0, none⟩) (n + 70) cF, .slice aE n cE] rfl rfl rfl (by simp [Value.oneCell']) ?_; intro w2 hs2 hg2 hr2; have HS2 := Lib.hid hs2; have HG2 := Lib.hid hg2; have HP := Lib.hid hr2; clear hs2 hg2 hr2)
  obtain ⟨b5, hb5⟩ : ∃ b5, b5 = w1.heap.size := ⟨_, rfl⟩
  have hb5s : b5 < w2.heap.size := by rw [hb5]; exact HP.out.lt
  rw [← hb5] at HP ⊢
  rw [← hb5] at HTE hgF2
  have hbb : w.heap.size ≤ b5 := by rw [hb5]; exact Z1.out
  clear hb5 HS2
  have g := HG2.out
  have HE := Lib.hid (HE0.out.grown g)
  have HF : Hid (SOwn w2 w.heap.size (some ⟨gF, 0, none⟩) (n + 70) cF (preS Es ++ Ms)) := Lib.hid (Own.ch HF0.out (Ch.ofNone g (fun _ => False)) (fun _ _ _ h => h))
  replace HG := Lib.hid (grownBy_trans HG.out g)
  have HW1 := Lib.hid g
  have Z2 := Lib.hid g.size
  clear g HG2
  have c0 := Row.cell HP.out 0
  simp at c0
  go_wp2_with fail
  clear c0
  refine (HJ1.out _ _ _ _ (pre_lies HE.out HF.out)).mono ?_
  rintro e w3 ⟨⟨ax, mx, cx, rfl, ho⟩, g⟩
  obtain rfl := BOwn.len ho
  have HXx := Lib.hid ho
  have WIx := Lib.hid ho.within
  clear ho
  have Z3 := Lib.hid g.size
  replace HG := Lib.hid (grownBy_trans HG.out g)
  replace HP := Lib.hid (HP.out.grown g)
  replace HE := Lib.hid (HE.out.grown g)
  replace HF : Hid (SOwn w3 w.heap.size (some ⟨gF, 0, none⟩) (n + 70) cF (preS Es ++ Ms)) := Lib.hid (Own.ch HF.out (Ch.ofNone g (fun _ => False)) (fun _ _ _ h => h))
  replace HW1 := Lib.hid (grownBy_trans HW1.out g)
  clear g
  have c0 := Row.cell HP.out 0
  simp at c0
  go_wp2_with fail
  clear c0
  refine (HJ1.out _ _ _ _ (pre_lies HE.out HF.out)).mono ?_
  rintro e w4 ⟨⟨ay, my, cy, rfl, ho⟩, g⟩
  obtain rfl := BOwn.len ho
  have HXy := Lib.hid ho
  have WIy := Lib.hid ho.within
  clear ho
  have Z4 := Lib.hid g.size
  replace HG := Lib.hid (grownBy_trans HG.out g)
  replace HP := Lib.hid (HP.out.grown g)
  replace HE := Lib.hid (HE.out.grown g)
  replace HF : Hid (SOwn w4 w.heap.size (some ⟨gF, 0, none⟩) (n + 70) cF (preS Es ++ Ms)) := Lib.hid (Own.ch HF.out (Ch.ofNone g (fun _ => False)) (fun _ _ _ h => h))
  replace HW1 := Lib.hid (grownBy_trans HW1.out g)
  replace HXx := Lib.hid (BOwn.grown HXx.out g)
  clear g
  have hM : ∀ i (h : i < Ms.length), BOwn w4 w.heap.size (Ms[i]).a 2 (Ms[i]).c [UInt8.ofNat i, 99] ∧ (Ms[i]).n = 2 := fun i h => by
    obtain ⟨h1, h2⟩ := HM0.out i h
    have hgg : w1.grownBy w4 none := HW1.out
    exact ⟨BOwn.grown h1 hgg, h2⟩
  have HM := Lib.hid hM
  clear hM
  go_wp2_with (first | (refine wpList_load_row rfl 36 _ rfl b5 rfl 36 #[.slice (some ⟨gF, 0, none⟩) n cF, .slice (some ⟨gF, 0, none⟩) (n + 70) cF, .slice aE n cE] (0, 0) _ HP.out Try.underlying36 rfl (by kernel_rfl) ?_))
  refine (keptLists_yes (some ⟨gF, 0, none⟩) aE a w.heap.size cF cE c n Es Ms L bs _ HE.out HF.out HML.out HM.out (HA.out.grown HG.out) HN.out HB.out hn2).mono ?_
  rintro e w5 ⟨rfl, g⟩
  have Z5 := Lib.hid g.size
  replace HG := Lib.hid (grownBy_trans HG.out g)
  replace HP := Lib.hid (HP.out.grown g)
  replace HE := Lib.hid (HE.out.grown g)
  replace HF : Hid (SOwn w5 w.heap.size (some ⟨gF, 0, none⟩) (n + 70) cF (preS Es ++ Ms)) := Lib.hid (Own.ch HF.out (Ch.ofNone g (fun _ => False)) (fun _ _ _ h => h))
  replace HW1 := Lib.hid (grownBy_trans HW1.out g)
  replace HXx := Lib.hid (BOwn.grown HXx.out g)
  replace HXy := Lib.hid (BOwn.grown HXy.out g)
  clear g
  clear HM HM0 HW1
  go_wp2_with (first | (refine wpList_load_row rfl 36 _ rfl b5 rfl 36 #[.slice (some ⟨gF, 0, none⟩) n cF, .slice (some ⟨gF, 0, none⟩) (n + 70) cF, .slice aE n cE] (0, 0) _ HP.out Try.underlying36 rfl (by kernel_rfl) ?_))
  refine (overLists_n aE w.heap.size b5 gF cF cE n Es (preS Es ++ Ms) (bs.map lent) _ HE.out HF.out HTE.out hgF2 (fun b hb => by
    rw [List.mem_map] at hb
    obtain ⟨b', hb', rfl⟩ := hb
    have h1 := lent_length b'
    have h2 := HB.out b' hb'
    omega) (by have h1 := HP.out.lt; omega) hn2).mono ?_
  rintro e w6 ⟨rfl, ⟨Lc, hlc⟩, hch⟩
  have HLC := Lib.hid hlc
  rw [← HBO.out] at HLC
  have Z6 := Lib.hid hch.size
  replace HG := Lib.hid (Ch.fresh HG.out hch (fun g hg h => by omega))
  replace HP := Lib.hid (HP.out.ch hch (fun h => by omega))
  replace HXx : Hid (BOwn w6 w2.heap.size ax X.length cx X) := Lib.hid (Own.ch HXx.out hch (fun h0 g e h => by
    have h1 := (Own.inn HXx.out (g := g) ⟨h0, e⟩).1
    have z3 := Z3.out
    omega))
  replace HXy : Hid (BOwn w6 w3.heap.size ay X.length cy X) := Lib.hid (Own.ch HXy.out hch (fun h0 g e h => by
    have h1 := (Own.inn HXy.out (g := g) ⟨h0, e⟩).1
    have z3 := Z3.out
    omega))
  clear hch hlc HE HF HE0 HF0 HTE
  go_wp2_with fail
  refine (HR1.out _ _ _ _ (HA.out.grown HG.out)).mono ?_
  rintro e w7 ⟨⟨aw, mw, cw, rfl, ho, hol, _⟩, g⟩
  obtain rfl := hol
  have HXw := Lib.hid ho
  clear ho
  have Z7 := Lib.hid g.size
  replace HG := Lib.hid (grownBy_trans HG.out g)
  replace HP := Lib.hid (HP.out.grown g)
  replace HXx := Lib.hid (BOwn.grown HXx.out g)
  replace HXy := Lib.hid (BOwn.grown HXy.out g)
  replace HLC := Lib.hid (HLC.out.grown g)
  clear g
  go_wp2_with fail
  refine (same_yes _ _ _ _ _ _ X _ (BOwn.lies HXx.out) HXw.out rfl rfl (Nat.le_trans HB1.out (by decide))).mono ?_
  rintro e w8 ⟨rfl, q, hq⟩
  have g : w7.grownBy w8 none := by rw [hq]; exact grownBy_drewN _ _ _
  clear hq q
  have Z8 := Lib.hid g.size
  replace HG := Lib.hid (grownBy_trans HG.out g)
  replace HP := Lib.hid (HP.out.grown g)
  replace HXx := Lib.hid (BOwn.grown HXx.out g)
  replace HXy := Lib.hid (BOwn.grown HXy.out g)
  replace HLC := Lib.hid (HLC.out.grown g)
  replace HXw := Lib.hid (HXw.out.grown g)
  clear g
  go_wp2_with fail
  refine (same_yes _ _ _ _ _ _ X _ (BOwn.lies HXy.out) HXw.out rfl rfl (Nat.le_trans HB1.out (by decide))).mono ?_
  rintro e w9 ⟨rfl, q, hq⟩
  have g : w8.grownBy w9 none := by rw [hq]; exact grownBy_drewN _ _ _
  clear hq q
  have Z9 := Lib.hid g.size
  replace HG := Lib.hid (grownBy_trans HG.out g)
  replace HP := Lib.hid (HP.out.grown g)
  replace HXx := Lib.hid (BOwn.grown HXx.out g)
  replace HXy := Lib.hid (BOwn.grown HXy.out g)
  replace HLC := Lib.hid (HLC.out.grown g)
  replace HXw := Lib.hid (HXw.out.grown g)
  clear g
  have c0 := Row.cell HP.out 0
  simp at c0
  go_wp2_with fail
  clear c0
  refine (HR2.out _ _ _ _ HLC.out).mono ?_
  rintro e w10 ⟨⟨ao, mo, co, rfl, ho, hol, _⟩, g⟩
  obtain rfl := hol
  have HXo := Lib.hid ho
  clear ho
  have Z10 := Lib.hid g.size
  replace HG := Lib.hid (grownBy_trans HG.out g)
  replace HP := Lib.hid (HP.out.grown g)
  replace HXx := Lib.hid (BOwn.grown HXx.out g)
  replace HXy := Lib.hid (BOwn.grown HXy.out g)
  replace HLC := Lib.hid (HLC.out.grown g)
  replace HXw := Lib.hid (HXw.out.grown g)
  clear g
  have c0 := Row.cell HP.out 0
  simp at c0
  go_wp2_with fail
  clear c0
  refine (HJ2.out _ _ _ _ HLC.out).mono ?_
  rintro e w11 ⟨⟨az, mz, cz, rfl, ho⟩, g⟩
  obtain rfl := BOwn.len ho
  have HXz := Lib.hid ho
  have WIz := Lib.hid ho.within
  clear ho
  have Z11 := Lib.hid g.size
  replace HG := Lib.hid (grownBy_trans HG.out g)
  replace HP := Lib.hid (HP.out.grown g)
  replace HXx := Lib.hid (BOwn.grown HXx.out g)
  replace HXy := Lib.hid (BOwn.grown HXy.out g)
  replace HLC := Lib.hid (HLC.out.grown g)
  replace HXw := Lib.hid (HXw.out.grown g)
  replace HXo := Lib.hid (HXo.out.grown g)
  clear g
  go_wp2_with fail
  refine (same_yes _ _ _ _ _ _ Y _ (BOwn.lies HXz.out) HXo.out rfl rfl (Nat.le_trans HB2.out (by decide))).mono ?_
  rintro e w12 ⟨rfl, q, hq⟩
  have g : w11.grownBy w12 none := by rw [hq]; exact grownBy_drewN _ _ _
  clear hq q
  have Z12 := Lib.hid g.size
  replace HG := Lib.hid (grownBy_trans HG.out g)
  replace HP := Lib.hid (HP.out.grown g)
  replace HXx := Lib.hid (BOwn.grown HXx.out g)
  replace HXy := Lib.hid (BOwn.grown HXy.out g)
  replace HLC := Lib.hid (HLC.out.grown g)
  replace HXw := Lib.hid (HXw.out.grown g)
  replace HXo := Lib.hid (HXo.out.grown g)
  replace HXz := Lib.hid (BOwn.grown HXz.out g)
  clear g
  go_wp2_with fail
  refine (same_yes _ _ _ _ _ _ X _ (BOwn.lies HXx.out) HXw.out rfl rfl (Nat.le_trans HB1.out (by decide))).mono ?_
  rintro e w13 ⟨rfl, q, hq⟩
  have g : w12.grownBy w13 none := by rw [hq]; exact grownBy_drewN _ _ _
  clear hq q
  have Z13 := Lib.hid g.size
  replace HG := Lib.hid (grownBy_trans HG.out g)
  replace HP := Lib.hid (HP.out.grown g)
  replace HXx := Lib.hid (BOwn.grown HXx.out g)
  replace HXy := Lib.hid (BOwn.grown HXy.out g)
  replace HLC := Lib.hid (HLC.out.grown g)
  replace HXw := Lib.hid (HXw.out.grown g)
  replace HXo := Lib.hid (HXo.out.grown g)
  replace HXz := Lib.hid (BOwn.grown HXz.out g)
  clear g
  go_wp2_with fail
  have zr : w.heap.size ≤ w13.heap.size := HG.out.size
  have z1 := Z1.out
  have z2 := Z2.out
  have z3 := Z3.out
  have z4 := Z4.out
  have z5 := Z5.out
  have z6 := Z6.out
  have z7 := Z7.out
  have z8 := Z8.out
  have z9 := Z9.out
  have z10 := Z10.out
  have z11 := Z11.out
  have z12 := Z12.out
  have z13 := Z13.out
  have hst := st1_lit (w := w13) (base := w.heap.size) (L := [⟨ax, X.length, cx⟩, ⟨ay, X.length, cy⟩, ⟨az, Y.length, cz⟩])
    (fun j hj => match j, hj with
      | 0, _ => ⟨_, HXx.out.mono (by omega)⟩
      | 1, _ => ⟨_, HXy.out.mono (by omega)⟩
      | 2, _ => ⟨_, HXz.out.mono (by omega)⟩) zr 3 rfl (by decide)
  have hd : Distinct [⟨ax, X.length, cx⟩, ⟨ay, X.length, cy⟩, ⟨az, Y.length, cz⟩] := distinct_of _ (fun | 0 => w2.heap.size | 1 => w3.heap.size | 2 => w10.heap.size | _ => w11.heap.size)
    (fun i hi => match i, hi with
      | 0, _ => (by show w2.heap.size ≤ w3.heap.size; omega)
      | 1, _ => (by show w3.heap.size ≤ w10.heap.size; omega)
      | 2, _ => (by show w10.heap.size ≤ w11.heap.size; omega))
    (fun i hi => match i, hi with
      | 0, _ => WIx.out
      | 1, _ => (fun q hq => by obtain ⟨h1, h2⟩ := WIy.out q hq; exact ⟨h1, by show q < w10.heap.size; omega⟩)
      | 2, _ => WIz.out)
  refine (apart_n _ _ _ 3 _ _ hst (by simp; omega) hd rfl (by omega) (fun j hj => match j, hj with
      | 0, _ => (by show X.length ≤ 100000000; exact HB1.out)
      | 1, _ => (by show X.length ≤ 100000000; exact HB1.out)
      | 2, _ => (by show Y.length ≤ 100000000; exact HB2.out))).mono ?_
  rintro e wz ⟨rfl, hbel⟩
  have GZ := Lib.hid (grown_below (grownBy_trans HG.out (World.grownBy_alloc w13 (.cells (([⟨ax, X.length, cx⟩, ⟨ay, X.length, cy⟩, ⟨az, Y.length, cz⟩] : List Sl).map Sl.val).toArray 22) none)) hbel (Nat.le_refl _))
  clear hbel hd hst
  go_wp2_with fail
  refine (awake_n _).mono ?_
  rintro e wy ⟨rfl, g⟩
  have GY := Lib.hid (grownBy_trans GZ.out g)
  clear g
  go_wp2_with fail
  refine bodyPost_ret (by simp [*, results, Try.results4, go_sem]; try rfl) rfl ?_
  exact ⟨rfl, GY.out⟩

end Go.Proofs.Ytfboddnpkaiifaa
