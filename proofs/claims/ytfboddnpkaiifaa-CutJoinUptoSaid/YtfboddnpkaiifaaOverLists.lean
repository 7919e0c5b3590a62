/- OverLists: what was handed in is written over; behind it the list holds so many times 1, 2, 3. -/
import Derived.Test.YtfboddnpkaiifaaKeptLists
namespace Go.Proofs.Ytfboddnpkaiifaa
open Go.RowKit

set_option maxRecDepth 100000 in
set_option maxHeartbeats 2000000 in
theorem overLists_n (aE : Option Addr) (base top gF cF cE n : Nat) (Es Fs : List Sl) (bs : List (List UInt8)) (w : World) (hE : LIs w base aE n cE bs Es) (hF : SOwn w base (some ⟨gF, 0, none⟩) (n + 70) cF Fs)
    (htE : ∀ i (h : i < Es.length) g, In (Es[i]).a (Es[i]).c g → g < top) (htF : gF < top) (hpos : ∀ b ∈ bs, 0 < b.length ∧ b.length ≤ 4000000100) (htop : top ≤ w.heap.size) (hn2 : n ≤ 4000000000) :
    Calls Try.prog 25 #[.agg #[.slice (some ⟨gF, 0, none⟩) n cF, .slice (some ⟨gF, 0, none⟩) (n + 70) cF, .slice aE n cE]] w fun e w' => e = .returned (.tuple #[]) ∧ (∃ Lc, LLies w' (some ⟨gF, 0, none⟩) Lc (List.replicate n [1, 2, 3])) ∧ Ch (fun g => base ≤ g ∧ g < top) w w' := by
  have hEl : Es.length = n := by have h1 := hE.outer; have := h1.1; simpa using this
  have hbl : bs.length = n := by rw [← hE.len, hEl]
  have hcF := (Own.cap hF).1
  have hgF := (Own.inn hF (g := gF) ⟨by omega, rfl⟩)
  have HE := Lib.hid hE
  have HF := Lib.hid hF
  have HTE := Lib.hid htE
  have HPOS := Lib.hid hpos
  have HEL := Lib.hid hEl
  have HBL := Lib.hid hbl
  have hgb := hgF.1
  clear hE hF htE hpos hEl hbl hgF
  go_enter Try.func25, Try.ntmps25
  go_wp2_with (refine wpList_boxed rfl rfl #[.slice (some ⟨gF, 0, none⟩) n cF, .slice (some ⟨gF, 0, none⟩) (n + 70) cF, .slice aE n cE] rfl ?_; intro w1 hs1 hg1 hr1; have HG1 := Lib.hid hg1; have HR1 := Lib.hid hr1; clear hs1 hg1 hr1)
  obtain ⟨b1, hb1⟩ : ∃ b1, b1 = w.heap.size := ⟨_, rfl⟩
  have hbt : top ≤ b1 := by omega
  have HE1 := Lib.hid (HE.out.grown HG1.out)
  have HF1 : Hid (SOwn w1 base (some ⟨gF, 0, none⟩) (n + 70) cF Fs) := Lib.hid (Own.ch HF.out (Ch.ofNone HG1.out (fun _ => False)) (fun _ _ _ h => h))
  rw [← hb1] at HR1 ⊢
  clear hb1
  go_loopw [2] (fun vi wr => ∃ i : Nat, i ≤ n ∧ vi = .int .i64 i ∧ Row wr b1 36 #[.slice (some ⟨gF, 0, none⟩) n cF, .slice (some ⟨gF, 0, none⟩) (n + 70) cF, .slice aE n cE] ∧ SOwn wr base aE n cE Es ∧ SOwn wr base (some ⟨gF, 0, none⟩) (n + 70) cF Fs ∧ (∀ j (h : j < Es.length), ∃ l, BOwn wr base (Es[j]).a (Es[j]).n (Es[j]).c l ∧ 0 < l.length ∧ l.length ≤ 4000000100) ∧ Ch (fun g => base ≤ g ∧ g < top) w wr) (fun vi _ => n - (intOf vi).toNat)
  case atStart => exact ⟨0, by omega, rfl, HR1.out, HE1.out.outer, HF1.out, fun j hj => by
    have hjb : j < bs.length := by rw [HBL.out, ← HEL.out]; exact hj
    exact ⟨bs[j], HE1.out.inner j hj hjb, HPOS.out _ (List.getElem_mem _)⟩, Ch.ofNone HG1.out _⟩
  case round =>
    obtain ⟨i, hi, rfl, hr, ho, hf, hall, hch⟩ := hrel
    have HR := Lib.hid hr
    have HO := Lib.hid ho
    have HFF := Lib.hid hf
    have HALL := Lib.hid hall
    have HCH := Lib.hid hch
    have c2 := Row.cell HR.out 2
    have c1 := Row.cell HR.out 1
    simp at c1 c2
    clear hr ho hf hall hch HR1 HE1 HF1
    by_cases hlt : i < n
    · obtain ⟨l, hbo, hl0, hl1⟩ := HALL.out i (by rw [HEL.out]; exact hlt)
      obtain ⟨gE, haE, c4, _⟩ := sown_cell HO.out i (Es[i]'(by rw [HEL.out]; exact hlt)) (List.getElem?_eq_getElem (by rw [HEL.out]; exact hlt))
      subst haE
      have hte := HTE.out i (by rw [HEL.out]; exact hlt)
      have hdis := HE.out.apart
      obtain ⟨s, hs⟩ : ∃ s, s = Es[i]'(by rw [HEL.out]; exact hlt) := ⟨_, rfl⟩
      have hapart : ∀ j (h : j < Es.length), j ≠ i → ∀ g, (Es[j]).blk = some g → s.blk ≠ some g := fun j h hne g hg => by rw [hs]; exact hdis j i h (by rw [HEL.out]; exact hlt) hne g hg
      rw [← hs] at hbo c4 hte
      obtain ⟨ea, em, ec⟩ := s
      have hbo' : BOwn wr base ea em ec l := hbo
      have hem : l.length = em := BOwn.len hbo'
      have hcap := (Own.cap hbo').1
      obtain ⟨g, hea, hg1, hg2⟩ := Own.block hbo' (by omega)
      subst hea
      have hgt : g < top := hte g ⟨by show 0 < ec; omega, rfl⟩
      have hc4 : wr.cell? ⟨gE, i, none⟩ = some (.slice (some ⟨g, 0, none⟩) em ec) := c4
      have HAP := Lib.hid hapart
      have HBO := Lib.hid hbo'
      have hecp : 0 < ec := by omega
      clear hbo hbo' c4 hs hdis hte hapart
      go_wp2_with fail
      refine (over_n base g ec em l wr HBO.out (by omega)).mono ?_
      rintro e w2 ⟨rfl, hov, hg⟩
      have hr2 := HR.out.grownNe hg (by omega)
      have ho2 : SOwn w2 base (some ⟨gE, 0, none⟩) n cE Es := Own.grownNe HO.out hg (fun q hc hq hr => by
        injection hr with hr; subst hr
        exact own_ne (hq ▸ HO.out : Own wr base 22 1 (some ⟨g, 0, none⟩) n cE (Es.map Sl.val)) HBO.out hc hecp (by decide) rfl)
      have hf2 : SOwn w2 base (some ⟨gF, 0, none⟩) (n + 70) cF Fs := Own.grownNe HFF.out hg (fun q hc hq hr => by
        injection hr with hr; subst hr
        exact own_ne (hq ▸ HFF.out : Own wr base 22 1 (some ⟨g, 0, none⟩) (n + 70) cF (Fs.map Sl.val)) HBO.out hc hecp (by decide) rfl)
      have hall2 : ∀ j (h : j < Es.length), ∃ l, BOwn w2 base (Es[j]).a (Es[j]).n (Es[j]).c l ∧ 0 < l.length ∧ l.length ≤ 4000000100 := fun j hj => by
        obtain ⟨l', h1, h2, h3⟩ := HALL.out j hj
        by_cases hji : j = i
        · refine ⟨over em, ?_, by rw [over_length]; omega, by rw [over_length]; omega⟩
          subst hji
          have hsj : Es[j] = ⟨some ⟨g, 0, none⟩, em, ec⟩ := by
            have h5 := sown_cell HO.out j (Es[j]) (List.getElem?_eq_getElem hj)
            obtain ⟨g5, e5, c5, _⟩ := h5
            injection e5 with e5; injection e5 with e5
            subst e5
            rw [hc4] at c5
            injection c5 with c5
            injection c5 with c5 c6 c7
            cases hEj : Es[j] with
            | mk x y z => rw [hEj] at c5 c6 c7; simp only at c5 c6 c7; rw [← c5, ← c6, ← c7]
          rw [hsj]
          exact hov
        · refine ⟨l', Own.grownNe h1 hg (fun q hc hq hr => ?_), h2, h3⟩
          injection hr with hr; subst hr
          have hbj : (Es[j]).blk = some g := by
            unfold Sl.blk
            rw [if_neg (by omega), hq]
            rfl
          refine HAP.out j hj hji g hbj ?_
          unfold Sl.blk
          rw [if_neg (by show ¬ ec = 0; omega)]
          rfl
      have hch2 := HCH.out.trans (Ch.ofSome (S := fun k => base ≤ k ∧ k < top) hg ⟨hg1, hgt⟩) (fun _ _ h => h)
      replace HR := Lib.hid hr2
      replace HO := Lib.hid ho2
      replace HFF := Lib.hid hf2
      replace HALL := Lib.hid hall2
      replace HCH := Lib.hid hch2
      clear hov hg hr2 ho2 hf2 hall2 hch2 c1 c2 hc4 HBO HAP
      go_wp2_with fail
      go_roundw
      case rel => exact ⟨i + 1, by omega, by go_num, HR.out, HO.out, HFF.out, HALL.out, HCH.out⟩
      case measure => simp [intOf]; omega
    · obtain rfl : i = n := by omega
      go_wp2_with fail
      go_loopw [3] (fun vj wr2 => ∃ (j : Nat) (Lc : List Sl), j ≤ i + 70 ∧ vj = .int .i64 j ∧ Row wr2 b1 36 #[.slice (some ⟨gF, 0, none⟩) i cF, .slice (some ⟨gF, 0, none⟩) (i + 70) cF, .slice aE i cE] ∧ SOwn wr2 base (some ⟨gF, 0, none⟩) (i + 70) cF Lc ∧ (∀ k (h : k < Lc.length), k < j → BOwn wr2 base (Lc[k]).a 3 (Lc[k]).c [1, 2, 3] ∧ (Lc[k]).n = 3) ∧ Ch (fun g => base ≤ g ∧ g < top) w wr2) (fun vj _ => i + 70 - (intOf vj).toNat)
      case atStart => exact ⟨0, Fs, by omega, rfl, HR.out, HFF.out, fun k _ h => absurd h (by omega), HCH.out⟩
      case round =>
        obtain ⟨j, Lc, hj, rfl, hr, hf, hall, hch⟩ := hrel
        clear c1 c2
        replace HR := Lib.hid hr
        replace HFF := Lib.hid hf
        have HALC := Lib.hid hall
        replace HCH := Lib.hid hch
        have c1 := Row.cell HR.out 1
        simp at c1
        have hLl : Lc.length = i + 70 := SOwn.len hf
        have HLL := Lib.hid hLl
        clear hr hf hall hch hLl
        by_cases hlt2 : j < i + 70
        · have ha := World.grownBy_alloc wr (.cells #[.int .u8 1, .int .u8 2, .int .u8 3] 5) none
          obtain ⟨w3, hw3⟩ : ∃ w3, w3 = wr.alloc (.cells #[.int .u8 1, .int .u8 2, .int .u8 3] 5) := ⟨_, rfl⟩
          have hf3 : SOwn w3 base (some ⟨gF, 0, none⟩) (i + 70) cF Lc := hw3 ▸ Own.ch HFF.out (Ch.ofNone ha (fun _ => False)) (fun _ _ _ h => h)
          obtain ⟨g', e', c5, f5⟩ := sown_cell hf3 j _ (List.getElem?_eq_getElem (by rw [HLL.out]; exact hlt2))
          injection e' with e'; injection e' with e'
          subst e'
          have hb2 : (j : Int) < ((i + 70 : Nat) : Int) := by omega
          have hb2' : (j : Int) < (i : Int) + 70 := by omega
          rw [hw3] at c5 f5
          go_wp2_with fail
          rw [← hw3]
          obtain ⟨w4, hw4⟩ : ∃ w4, w4 = w3.setCell ⟨gF, j, none⟩ (.slice (some ⟨wr.heap.size, 0, none⟩) 3 3) := ⟨_, rfl⟩
          rw [← hw4]
          have hg4 : w3.grownBy w4 (some gF) := hw4 ▸ grownBy_setCell _ _ _ _
          have ha3 : wr.grownBy w3 none := hw3 ▸ ha
          have hwr : w.heap.size ≤ wr.heap.size := HCH.out.size
          have hr4 := ((HR.out.grown ha3).grownNe hg4 (by omega))
          have hf4 : SOwn w4 base (some ⟨gF, 0, none⟩) (i + 70) cF (Lc.set j ⟨some ⟨wr.heap.size, 0, none⟩, 3, 3⟩) := by
            have h1 := Own.set hf3 j (by rw [List.length_map, HLL.out]; exact hlt2) (.slice (some ⟨wr.heap.size, 0, none⟩) 3 3)
            unfold SOwn
            rw [List.map_set, hw4]
            exact h1
          have keep : ∀ (a' : Option Addr) (n' c' : Nat) (l : List UInt8), BOwn w3 base a' n' c' l → BOwn w4 base a' n' c' l := fun a' n' c' l h => Own.grownNe h hg4 (fun q hc hq hr => by
            injection hr with hr; subst hr
            exact own_ne (hq ▸ h : Own w3 base 5 1 (some ⟨gF, 0, none⟩) n' c' (l.map bval)) hf3 hc (by have := (Own.cap hf3).1; omega) (by decide) rfl)
          have hnew : BOwn w3 base (some ⟨wr.heap.size, 0, none⟩) 3 3 [1, 2, 3] := by
            have hb : BRow w3 wr.heap.size 5 [1, 2, 3] := by rw [hw3]; exact heap_alloc_new wr _
            exact BRow.own hb (by omega) 3 rfl (by decide)
          have hall4 : ∀ k (h : k < (Lc.set j ⟨some ⟨wr.heap.size, 0, none⟩, 3, 3⟩).length), k < j + 1 → BOwn w4 base ((Lc.set j ⟨some ⟨wr.heap.size, 0, none⟩, 3, 3⟩)[k]).a 3 ((Lc.set j ⟨some ⟨wr.heap.size, 0, none⟩, 3, 3⟩)[k]).c [1, 2, 3] ∧ ((Lc.set j ⟨some ⟨wr.heap.size, 0, none⟩, 3, 3⟩)[k]).n = 3 := by
            intro k hk hkj
            rw [List.length_set] at hk
            by_cases hjk : j = k
            · subst hjk
              rw [List.getElem_set_self]
              exact ⟨keep _ _ _ _ hnew, rfl⟩
            · rw [List.getElem_set_ne hjk]
              obtain ⟨h1, h2⟩ := HALC.out k hk (by omega)
              exact ⟨keep _ _ _ _ (Own.ch h1 (Ch.ofNone ha3 (fun _ => False)) (fun _ _ _ h => h)), h2⟩
          have hch4 := (HCH.out.then ha3).trans (Ch.ofSome (S := fun k => base ≤ k ∧ k < top) hg4 ⟨hgb, htF⟩) (fun _ _ h => h)
          have HR4 := Lib.hid hr4
          have HF4 := Lib.hid hf4
          have HA4 := Lib.hid hall4
          have HC4 := Lib.hid hch4
          clear ha hw3 hf3 c5 f5 hw4 hg4 ha3 hr4 hf4 keep hnew hall4 hch4 c1 HR HFF HALC HCH hwr
          go_roundw
          case rel => exact ⟨j + 1, _, by omega, by go_num, HR4.out, HF4.out, HA4.out, HC4.out⟩
          case measure => simp [intOf]; omega
        · obtain rfl : j = i + 70 := by omega
          have hlies : LLies wr (some ⟨gF, 0, none⟩) (Lc.take i) (List.replicate i [1, 2, 3]) := by
            refine ⟨fun k hk => ?_, by rw [List.length_take, HLL.out, List.length_replicate]; omega, fun k hk hk' => ?_⟩
            · rw [List.length_map, List.length_take, HLL.out] at hk
              have hkl : k < Lc.length := by rw [HLL.out]; omega
              obtain ⟨g', e', c5, _⟩ := sown_cell HFF.out k _ (List.getElem?_eq_getElem hkl)
              refine ⟨g', 0, e', ?_⟩
              rw [Nat.zero_add, c5]
              simp [Sl.val, List.getElem_take]
            · rw [List.length_take, HLL.out] at hk
              obtain ⟨h1, h2⟩ := HALC.out k (by rw [HLL.out]; omega) (by omega)
              rw [List.getElem_take, List.getElem_replicate]
              exact ⟨BOwn.lies h1, h2⟩
          have HLI := Lib.hid hlies
          clear hlies
          go_wp2_with fail
          go_end0
          exact ⟨rfl, ⟨_, HLI.out⟩, HCH.out⟩

end Go.Proofs.Ytfboddnpkaiifaa
