/- Helpers and contracts of the proofs over this seat: ApListsL, CutJoin, CutLaws, CutShape, CutShapeG, CutShapeT, RegG, CutAgain, EqArr, CutFits, CutFitsW, CutAwake. Each states what a function of the program answers, or is plain Lean; its conditions stand in each statement. -/
import Derived.Deep.RegionHeld3
import Derived.Deep.Cut
import Derived.DeepKeys
import Derived.Test.YtfboddnpkaiifaaPtAA
import Derived.Test.YtfboddnpkaiifaaPtAB
import Derived.Test.YtfboddnpkaiifaaPtAC
set_option linter.unusedVariables false
/- ApartLists of a literal list of lists that calls have handed out, each in memory of its own. -/
namespace Go.Proofs.Ytfboddnpkaiifaa
open Go.RowKit

def Sl.offT (s t : Sl) : Prop := ∀ g, s.blk = some g → t.blk ≠ some g
theorem Sl.offT_win {s t : Sl} {a b c d : Nat} (h : s.within a b) (k : t.within c d) (hbc : b ≤ c) : s.offT t := fun g h1 h2 => by
  have := h g h1
  have := k g h2
  omega
theorem distinct_pairsT (L : List Sl) (h : L.Pairwise Sl.offT) : Distinct L := by
  intro i j hi hj hne g h1 h2
  rw [List.pairwise_iff_getElem] at h
  rcases Nat.lt_or_gt_of_ne hne with hlt | hlt
  · exact h i j hi hj hlt g h1 h2
  · exact h j i hj hi hlt g h2 h1
theorem distinct_offT {L : List Sl} (h : Distinct L) : L.Pairwise Sl.offT := by
  rw [List.pairwise_iff_getElem]
  intro i j hi hj hij g h1 h2
  exact h i j hi hj (by omega) g h1 h2
theorem Sl.within_mono {s : Sl} {a b c d : Nat} (h : s.within a b) (h1 : c ≤ a) (h2 : b ≤ d) : s.within c d := fun g hg => by have := h g hg; omega

theorem LIs.boxO {w : World} {base : Nat} {a : Option Addr} {n c : Nat} {bs : List (List UInt8)} {L : List Sl} (h : LIs w base a n c bs L) : (⟨a, n, c⟩ : Sl).within base w.heap.size := fun g hg => by
  obtain ⟨_, _, h1, h2⟩ := own_blk (s := ⟨a, n, c⟩) h.outer hg
  exact ⟨h1, h2⟩
theorem LIs.boxI {w : World} {base : Nat} {a : Option Addr} {n c : Nat} {bs : List (List UInt8)} {L : List Sl} (h : LIs w base a n c bs L) (j : Nat) (hj : j < L.length) : (L[j]).within base w.heap.size := fun g hg => by
  obtain ⟨_, _, h1, h2⟩ := own_blk (h.inner j hj (by have := h.len; omega)) hg
  exact ⟨h1, h2⟩
/-- what ApartBytes of other lists leaves -/
theorem LIs.keptT {w w' : World} {base b0 lo hi : Nat} {a : Option Addr} {n c : Nat} {bs : List (List UInt8)} {L SL : List Sl} (h : LIs w base a n c bs L) (hb : BelowT b0 SL w w') (hs : ∀ j (hj : j < SL.length), (SL[j]).within lo hi) (hh : hi ≤ base) : LIs w' base a n c bs L :=
  ⟨Own.keptT h.outer (by decide) hb, h.len, fun i h1 h2 => (h.inner i h1 h2).kept' fun hc g ha hl => hb.off g (.inr ⟨hl, fun j hj e => by
    have h3 := hs j hj g e
    obtain ⟨g', ha', h4, _⟩ := Own.block (h.inner i h1 h2) hc
    rw [ha] at ha'
    injection ha' with ha'; injection ha' with ha'
    omega⟩), h.apart⟩

theorem apartLists_lit (w : World) (base : Nat) (O : List Sl) (Ls : List (List Sl)) (b : Nat → Nat) (hbm : ∀ i, i < O.length → b i ≤ b (i + 1)) (hb0 : base ≤ b 0) (hbw : base ≤ w.heap.size)
    (h : ∀ i (hi : i < O.length) (hi' : i < Ls.length), (∃ bs, LIs w (b i) (O[i]).a (O[i]).n (O[i]).c bs Ls[i]) ∧ (O[i]).within (b i) (b (i + 1)) ∧ ∀ j (hj : j < (Ls[i]).length), ((Ls[i])[j]).within (b i) (b (i + 1)))
    (hll : Ls.length = O.length) (n : Nat) (hn : O.length = n) (hK : n ≤ 1000) (hM : Ls.flatten.length ≤ 10000000) (hN : ∀ L ∈ Ls, ∀ s ∈ L, s.n ≤ 100000000) :
    Calls Try.prog 20 #[.slice (some ⟨w.heap.size, 0, none⟩) n n] (w.alloc (.cells (O.map Sl.val).toArray 24)) fun e w' => e = .returned (.bool true) ∧ Below base (w.alloc (.cells (O.map Sl.val).toArray 24)) w' := by
  have hga := World.grownBy_alloc w (.cells (O.map Sl.val).toArray 24) none
  have hbi : ∀ i, i ≤ O.length → base ≤ b i := by
    intro i
    induction i with
    | zero => intro _; exact hb0
    | succ i ih => intro hi; exact Nat.le_trans (ih (by omega)) (hbm i (by omega))
  have hbmono : ∀ i j, i ≤ j → j ≤ O.length → b i ≤ b j := by
    intro i j hij
    induction j with
    | zero => intro _; have : i = 0 := by omega
              subst this; exact Nat.le_refl _
    | succ j ih =>
      intro hj
      by_cases e : i = j + 1
      · subst e; exact Nat.le_refl _
      · exact Nat.le_trans (ih (by omega) (by omega)) (hbm j (by omega))
  refine apartLists_n base _ n n O Ls _ ((own_lit w _ _ n (by simpa using hn) (by unfold maxLen; omega)).mono hbw) hn (by omega) (fun j hj hj' => ?_) (fun j hj => ?_) (distinct_of O b hbm (fun i hi => (h i hi (by omega)).2.1)) (distinct_pairsT _ ?_) (Nat.le_trans hbw hga.size) hK hM (fun j hj => ?_)
  · obtain ⟨⟨bs, h1⟩, _⟩ := h j hj hj'
    exact (Own.grownNone h1.outer hga).mono (hbi j (by omega))
  · have hm := List.getElem_mem hj
    rw [List.mem_flatten] at hm
    obtain ⟨L, hL, hs⟩ := hm
    obtain ⟨i, hi, rfl⟩ := List.getElem_of_mem hL
    obtain ⟨k, hk, e⟩ := List.getElem_of_mem hs
    obtain ⟨⟨bs, h1⟩, _⟩ := h i (by omega) hi
    have h2 := h1.inner k hk (by have := h1.len; omega)
    rw [e] at h2
    exact ⟨_, ((h2.grown hga).mono (hbi i (by omega)))⟩
  · rw [List.pairwise_flatten]
    refine ⟨fun L hL => ?_, ?_⟩
    · obtain ⟨i, hi, rfl⟩ := List.getElem_of_mem hL
      obtain ⟨⟨bs, h1⟩, _⟩ := h i (by omega) hi
      exact distinct_offT h1.apart
    · rw [List.pairwise_iff_getElem]
      intro i j hi hj hij s hs t ht
      obtain ⟨k, hk, rfl⟩ := List.getElem_of_mem hs
      obtain ⟨m, hm, rfl⟩ := List.getElem_of_mem ht
      exact Sl.offT_win ((h i (by omega) hi).2.2 k hk) ((h j (by omega) hj).2.2 m hm) (hbmono (i + 1) j (by omega) (by omega))
  · have hm := List.getElem_mem hj
    rw [List.mem_flatten] at hm
    obtain ⟨L, hL, hs⟩ := hm
    exact hN L hL _ hs
end Go.Proofs.Ytfboddnpkaiifaa
/- cut.Join. -/
namespace Go.Proofs.Ytfboddnpkaiifaa
open Go.RowKit

theorem piece_0 (a : Option Addr) (c N n : Nat) (l : List UInt8) (w : World) (ha : BLies w a l) (hl : l.length = N) (hN : N ≤ 100000000) (hn : n ≤ N) (hc : N ≤ c) :
    Calls Try.prog 53 #[.slice a N c, .int .i64 0, .int .i64 (n : Int)] w fun e w' => ∃ a' c', e = .returned (.slice a' n c') ∧ BOwn w' w.heap.size a' n c' (l.take n) ∧ w.grownBy w' none := by
  simpa using piece_n a c N 0 n l w ha hl hN (by omega) hc

theorem flatten_len {bs : List (List UInt8)} {q : Nat} (h : ∀ b ∈ bs, b.length = q) : bs.flatten.length = bs.length * q := by
  induction bs with
  | nil => simp
  | cons b r ih =>
    rw [List.flatten_cons, List.length_append, ih (fun b hb => h b (by simp [hb])), h b (by simp), List.length_cons, Nat.succ_mul, Nat.add_comm]

theorem mem_take_succ {bs : List (List UInt8)} {q i : Nat} (hi : i < bs.length) (h : ∀ b ∈ bs.take i, b.length = q) (e : (bs[i]).length = q) : ∀ b ∈ bs.take (i + 1), b.length = q := by
  intro b hb
  rw [List.take_succ_eq_append_getElem hi] at hb
  rcases List.mem_append.1 hb with hb | hb
  · exact h b hb
  · simp at hb; subst hb; exact e

set_option maxRecDepth 100000 in
set_option maxHeartbeats 4000000 in
theorem join_ok (a : Option Addr) (c K z U q : Nat) (L : List Sl) (bs : List (List UInt8)) (w : World) (hL : LLies w a L bs) (hK : bs.length = K) (B : BkN K z U q) (hU : upN 65536 K = U) (hq : upN z K = q) :
    Calls Try.prog 23 #[.slice a K c, .int .i64 (z : Int)] w fun e w' => ((∀ b ∈ bs, b.length = q) ∧ (∃ a' c', e = .returned (.tuple #[.slice a' z c', .int .i64 0]) ∧ BOwn w' w.heap.size a' z c' (bs.flatten.take z)) ∨ (¬ ∀ b ∈ bs, b.length = q) ∧ e = .returned (.tuple #[.slice none 0 0, .int .i64 91])) ∧ w.grownBy w' none := by
  obtain ⟨k1, k2, n1, nU, U1, kU, q1, qn, kq, kq2⟩ := B
  obtain ⟨M, hM⟩ : ∃ M, M = K * U := ⟨_, rfl⟩
  rw [← hM] at nU kU
  have wU : IntKind.i64.wrap ((K : Int) * (U : Int)) = (M : Int) := by rw [hM]; rw [show ((K : Int) * (U : Int)) = ((K * U : Nat) : Int) by simp]; rw [← hM]; exact i64_nat _ (by omega)
  have hup1 : ∀ w, Calls Try.prog 51 #[.int .i64 65536, .int .i64 K] w fun e w' => e = .returned (.int .i64 (U : Nat)) ∧ w = w' := fun w => by
    have := up_n 65536 K w (by omega) k1 (by omega)
    rw [hU] at this
    exact this
  have hup2 : ∀ w, Calls Try.prog 51 #[.int .i64 z, .int .i64 K] w fun e w' => e = .returned (.int .i64 (q : Nat)) ∧ w = w' := fun w => by
    have := up_n z K w (by omega) k1 (by omega)
    rw [hq] at this
    exact this
  obtain ⟨N, hN⟩ : ∃ N, N = K * q := ⟨_, rfl⟩
  rw [← hN] at kq kq2
  have HU1 := Lib.hid hup1
  have HU2 := Lib.hid hup2
  have HLL := Lib.hid hL
  have HK := Lib.hid hK
  have HN := Lib.hid hN
  have HKQ := Lib.hid kq
  clear hup1 hup2 hL hK hU hq hM hN kq
  have d1 : decide (M < z) = false := by rw [decide_eq_false_iff_not]; omega
  have d2 : decide ((M : Int) < (z : Int)) = false := by rw [decide_eq_false_iff_not]; omega
  go_enter Try.func23, Try.ntmps23
  go_wp2_with fail
  refine (HU1.out _).mono ?_
  rintro e w' ⟨rfl, rfl⟩
  go_wp2_with fail
  go_loopw [7, 32] (fun v vi wr => ∃ (i r : Nat) (a' : Option Addr) (c' : Nat), i ≤ K ∧ Hid (r = i * q) ∧ vi = .int .i64 i ∧ v = .slice a' r c' ∧ Hid (BOwn wr w.heap.size a' r c' (bs.take i).flatten) ∧ Hid (∀ b ∈ bs.take i, b.length = q) ∧ Hid (w.grownBy wr none)) (fun _ vi _ => K - (intOf vi).toNat)
  case atStart => exact ⟨0, 0, none, 0, by omega, Lib.hid (by simp), rfl, rfl, Lib.hid (Own.nil _ _ _ _ _), Lib.hid (by simp), Lib.hid (World.grownBy.refl _ _)⟩
  case round =>
    obtain ⟨i, r, a', c', hi, HRi, rfl, rfl, HO, HM, HG⟩ := hrel
    by_cases hlt : i < K
    · have hib : i < bs.length := by have := HK.out; omega
      have hiL : i < L.length := by have := HLL.out.2.1; omega
      obtain ⟨s, hs⟩ : ∃ s, s = L[i] := ⟨_, rfl⟩
      obtain ⟨b0, hb0⟩ : ∃ b0, b0 = bs[i] := ⟨_, rfl⟩
      have hLw := HLL.out.grown HG.out
      obtain ⟨gb, goff, rfl, hcell⟩ := hLw.1 i (by simpa using hiL)
      rw [List.getElem_map, ← hs] at hcell
      have hin := hLw.2.2 i hiL hib
      rw [← hs, ← hb0] at hin
      obtain ⟨sa, sn, sc⟩ := s
      obtain ⟨hbl, hbn⟩ := hin
      simp only at hbl hbn
      simp only [Sl.val] at hcell
      have HB := Lib.hid hbl
      have HBN := Lib.hid hbn
      have HB0 := Lib.hid hb0
      have HS := Lib.hid hs
      clear hbl hbn hb0 hs hLw
      by_cases he : sn = q
      · subst he
        obtain ⟨bb, boff, rfl⟩ := HB.out.addr (by have := HBN.out; omega)
        have hrN : r + sn ≤ N := by
          have h1 : (i + 1) * sn ≤ K * sn := Nat.mul_le_mul_right _ hlt
          rw [Nat.succ_mul] at h1
          have := HRi.out
          have := HN.out
          omega
        have hsz := HG.out.size
        go_wp2_with fail
        refine (HU2.out _).mono ?_
        rintro e w' ⟨rfl, rfl⟩
        go_wp2_with (at_builtin; refine wpList_app elB rfl (.tmp 42) (.tmp 43) rfl rfl HO.out ⟨bb, boff, none⟩ sn sc (b0.map bval) rfl (by rw [List.length_map, ← HBN.out, Nat.mul_one]) HB.out.news (bval_one b0) (by unfold maxLen; omega) (by omega) hsz (by omega) ?_; intro g cap w1 hown1 hgr)
        go_roundw
        case rel =>
          have hib : i < bs.length := by have := HK.out; omega
          refine ⟨i + 1, r + sn, _, _, by omega, Lib.hid (by rw [Nat.succ_mul, HRi.out]), by go_num, rfl, Lib.hid ?_, Lib.hid (mem_take_succ hib HM.out (by rw [← HB0.out]; exact HBN.out.symm)), Lib.hid (hgr.grew.grown HO.out HG.out (Nat.le_refl _))⟩
          rw [List.take_succ_eq_append_getElem hib, List.flatten_append, ← HB0.out]
          unfold BOwn
          rw [List.map_append]
          simpa using hown1
        case measure => simp [intOf]; omega
      · have hne : ((sn : Int) != (q : Int)) = true := by rw [bne_iff_ne]; omega
        go_wp2_with fail
        refine (HU2.out _).mono ?_
        rintro e w' ⟨rfl, rfl⟩
        go_wp2_with fail
        refine bodyPost_ret (by simp [*, results, Try.results23, go_sem]; try rfl) rfl ?_
        refine ⟨.inr ⟨fun h => he ?_, rfl⟩, HG.out⟩
        rw [HBN.out, HB0.out]
        exact h _ (List.getElem_mem _)
    · obtain rfl : i = K := by omega
      have hr : r = N := by rw [HRi.out, HN.out]
      have hall : bs.take i = bs := List.take_of_length_le (by have := HK.out; omega)
      have ho := HO.out
      have hm := HM.out
      rw [hall] at ho hm
      have HM2 := Lib.hid hm
      have hzr : z ≤ r := by have := HKQ.out; omega
      have HP := Lib.hid (piece_0 a' c' r z bs.flatten wr ho.lies ho.len (by omega) hzr ho.cap.1)
      clear ho hm hall hr
      go_wp2_with fail
      refine HP.out.mono ?_
      rintro e w' ⟨a2, c2, rfl, ho2, hg2⟩
      go_wp2_with fail
      refine bodyPost_ret (by simp [*, results, Try.results23, go_sem]; try rfl) rfl ?_
      exact ⟨.inl ⟨HM2.out, _, _, rfl, ho2.mono HG.out.size⟩, grownBy_trans HG.out hg2⟩

end Go.Proofs.Ytfboddnpkaiifaa
/- What shapes answer to each other. No walk. -/
namespace Go.Proofs.Ytfboddnpkaiifaa
open Go.RowKit

theorem sh_fields {k n seg : Int} {ls : Nat} {z : Int} (h : shE k n seg ls z = 0) : (shS k n seg ls z).k = k ∧ (shS k n seg ls z).n = n ∧ (shS k n seg ls z).seg = (segT k seg : Nat) ∧ (shS k n seg ls z).size = z := by
  obtain ⟨⟨h1, h2, h3, h4, h5, h6, _⟩, ⟨z1, z2⟩, _⟩ := shE_zero.1 h
  unfold shS
  rw [if_pos h]
  refine ⟨?_, ?_, rfl, ?_⟩
  · show (k.toNat : Int) = k; omega
  · show (n.toNat : Int) = n; omega
  · show (z.toNat : Int) = z; omega

/-- P9.10: a shape is told again by its four numbers -/
theorem sh_again {k n seg : Int} {ls : Nat} {z : Int} (h : shE k n seg ls z = 0) : agE k n (segT k seg : Nat) z = 0 ∧ agS k n (segT k seg : Nat) z = shS k n seg ls z := by
  have h' := shE_zero.1 h
  have ha : agE k n (segT k seg : Nat) z = 0 := agE_zero.2 ⟨four_of h'.1 h'.2.1, by simpa using h'.2.2⟩
  refine ⟨ha, ?_⟩
  unfold agS shS
  rw [if_pos h, if_pos ha]
  simp
theorem sh_fits {k n seg : Int} {ls : Nat} {z : Int} (h : shE k n seg ls z = 0) : fits (shS k n seg ls z) := by
  obtain ⟨e1, e2, e3, e4⟩ := sh_fields h
  unfold fits
  rw [e1, e2, e3, e4]
  exact ⟨(sh_again h).1, (sh_again h).2.symm⟩
theorem ag_fits {k n seg z : Int} (h : agE k n seg z = 0) : fits (agS k n seg z) := by
  rcases ag_some h with ⟨h0, hs⟩ | ⟨h0, hs⟩
  · rw [(ag_first h0 hs).2]; exact sh_fits h0
  · rw [(ag_second h0 hs).2]; exact sh_fits h0
theorem noSh_fits : ¬ fits noSh := by decide
theorem ag_fits_iff {k n seg z : Int} : fits (agS k n seg z) ↔ agE k n seg z = 0 := by
  constructor
  · intro h
    by_cases h0 : agE k n seg z = 0
    · exact h0
    · unfold agS at h
      rw [if_neg h0] at h
      exact absurd h noSh_fits
  · exact ag_fits

/-- and asked for by its own segment's size -/
theorem sh_own {k n seg : Int} {ls : Nat} {z : Int} (h : shE k n seg ls z = 0) (hs : segT k seg ≤ 65536) : shE k n (segT k seg : Nat) ls z = 0 ∧ shS k n (segT k seg : Nat) ls z = shS k n seg ls z := by
  obtain ⟨⟨h1, h2, h3, h4, h5, h6, h7⟩, hz, hseg⟩ := shE_zero.1 h
  have hk : 1 ≤ k.toNat := by omega
  have hp : 1 ≤ segT k seg := Nat.mul_pos (by omega) (upN_pos (by omega) hk)
  have e : segT k (segT k seg : Nat) = segT k seg := by
    show k.toNat * upN (segT k seg : Int).toNat k.toNat = segT k seg
    rw [Int.toNat_natCast]
    unfold segT
    rw [Nat.mul_comm k.toNat (upN seg.toNat k.toNat), upN_self hk, Nat.mul_comm]
  have h0 : shE k n (segT k seg : Nat) ls z = 0 := shE_zero.2 ⟨⟨h1, h2, h3, h4, by omega, by omega, h7⟩, hz, by rw [e]; exact hseg⟩
  refine ⟨h0, ?_⟩
  unfold shS
  rw [if_pos h, if_pos h0, e]

/-- a longer file has no fewer segments -/
theorem sh_more {k n seg : Int} {ls : Nat} {z m : Int} (h : shE k n seg ls z = 0) (hm : 0 ≤ m) : (shE k n seg ls (z + m) = 0 ∧ (shS k n seg ls z).segs ≤ (shS k n seg ls (z + m)).segs ∧ (shS k n seg ls (z + m)).seg = (shS k n seg ls z).seg ∧ (shS k n seg ls (z + m)).block = (shS k n seg ls z).block) ∨ shE k n seg ls (z + m) = 4 ∨ shE k n seg ls (z + m) = 3 := by
  obtain ⟨g, ⟨z1, z2⟩, hseg⟩ := shE_zero.1 h
  by_cases h0 : shE k n seg ls (z + m) = 0
  · left
    refine ⟨h0, ?_⟩
    have hk : 1 ≤ k.toNat := by have := g.2.2.1; omega
    have hp : 1 ≤ segT k seg := Nat.mul_pos (by omega) (upN_pos (by have := g.2.2.2.2.1; omega) hk)
    unfold shS
    rw [if_pos h, if_pos h0]
    refine ⟨?_, rfl, rfl⟩
    show ((segsN (segT k seg) z.toNat : Nat) : Int) ≤ (segsN (segT k seg) (z + m).toNat : Nat)
    have := upN_mono (a := z.toNat) (a' := (z + m).toNat) hp (by omega)
    exact Int.ofNat_le.2 this
  · right
    unfold shE at *
    rw [if_pos g] at *
    split at h0 <;> simp_all

/-- P9.8: where a stretch lies -/
theorem stretch {s : Sh} (hf : fits s) {p q : Nat} (hp : (p : Int) < s.size) (hq1 : 1 ≤ q) (hq : (p : Int) + q ≤ s.size) :
    ∃ a b t : Nat, cvE s p q = 0 ∧ cvA s p q = (a : Int) ∧ cvB s p q = (b : Int) ∧ a ≤ b ∧ (b : Int) < s.segs ∧ szE s b = 0 ∧ szV s b s.seg s.tail = (t : Int) ∧ t ≤ 65791 ∧
      (a : Int) * s.seg ≤ p ∧ (p : Int) < ((a : Int) + 1) * s.seg ∧ (b : Int) * s.seg ≤ (p : Int) + q - 1 ∧ (p : Int) + q - 1 < (b : Int) * s.seg + t ∧ (b : Int) < 512 ∧ s.seg ≤ 65791 ∧ 0 < s.seg := by
  obtain ⟨k, n, g, z, F⟩ := fits_fit hf
  have hs := F.eq
  have hg := F.g1
  have hz1 := F.z1
  have hk1 := F.k1
  have e1 : s.seg = (g : Int) := by rw [hs]; rfl
  have e2 : s.size = (z : Int) := by rw [hs]; rfl
  have e3 : s.segs = (segsN g z : Nat) := by rw [hs]; rfl
  have e4 : s.tail = (tailN g z : Nat) := by rw [hs]; rfl
  have hE : cvE s p q = 0 := by
    unfold cvE
    rw [if_pos hf, if_pos ⟨by omega, by omega, by omega, by omega⟩]
  have hA : cvA s p q = (p / g : Nat) := by
    unfold cvA
    rw [if_pos hE, e1]
    simp
  have hB : cvB s p q = ((p + q - 1) / g : Nat) := by
    unfold cvB
    rw [if_pos hE, e1]
    simp
  have hb1 : (p + q - 1) / g < segsN g z := by
    rw [Nat.div_lt_iff_lt_mul (by omega)]
    have := segs_above (g := g) (z := z) hg
    omega
  have hSz : szE s ((p + q - 1) / g : Nat) = 0 := by
    unfold szE
    rw [if_pos hf, if_pos ⟨Int.natCast_nonneg _, by rw [e3]; exact Int.ofNat_lt.2 hb1⟩]
  have hd := Nat.div_add_mod p g
  have hm := Nat.mod_lt p (show g > 0 by omega)
  have hd2 := Nat.div_add_mod (p + q - 1) g
  have hm2 := Nat.mod_lt (p + q - 1) (show g > 0 by omega)
  have c1 : p / g * g ≤ p := Nat.div_mul_le_self _ _
  have c2 : p < (p / g + 1) * g := by rw [Nat.add_mul, Nat.one_mul, Nat.mul_comm (p / g)]; omega
  have c3 : (p + q - 1) / g * g ≤ p + q - 1 := Nat.div_mul_le_self _ _
  have hseg := F.segs
  have hg2 := F.g2
  by_cases hl : (p + q - 1) / g = segsN g z - 1
  · have ht := tail_eq (g := g) (z := z) hg (by omega)
    refine ⟨p / g, (p + q - 1) / g, tailN g z, hE, hA, hB, Nat.div_le_div_right (by omega), by omega, hSz, ?_, ?_, ?_, ?_, ?_, ?_, by omega, by omega, by omega⟩
    · unfold szV
      rw [if_pos hSz, if_pos (by omega), e4]
    · exact Nat.le_trans (tail_le hg (by omega)) hg2
    · rw [e1]; exact_mod_cast c1
    · rw [e1]; exact_mod_cast c2
    · rw [e1]
      have : (((p + q - 1) / g * g : Nat) : Int) ≤ ((p + q - 1 : Nat) : Int) := Int.ofNat_le.2 c3
      rw [Int.natCast_mul] at this
      omega
    · rw [e1, hl]
      have : (((segsN g z - 1) * g + tailN g z : Nat) : Int) = (z : Int) := by rw [ht]
      rw [Int.natCast_add, Int.natCast_mul] at this
      omega
  · refine ⟨p / g, (p + q - 1) / g, g, hE, hA, hB, Nat.div_le_div_right (by omega), by omega, hSz, ?_, hg2, ?_, ?_, ?_, ?_, by omega, by omega, by omega⟩
    · unfold szV
      rw [if_pos hSz, if_neg (fun h => hl (by rw [e3] at h; generalize (p + q - 1) / g = bb at *; omega)), e1]
    · rw [e1]; exact_mod_cast c1
    · rw [e1]; exact_mod_cast c2
    · rw [e1]
      have : (((p + q - 1) / g * g : Nat) : Int) ≤ ((p + q - 1 : Nat) : Int) := Int.ofNat_le.2 c3
      rw [Int.natCast_mul] at this
      omega
    · rw [e1]
      have c4 : p + q - 1 < (p + q - 1) / g * g + g := by rw [Nat.mul_comm ((p + q - 1) / g) g]; omega
      have : ((p + q - 1 : Nat) : Int) < (((p + q - 1) / g * g + g : Nat) : Int) := Int.ofNat_lt.2 c4
      rw [Int.natCast_add, Int.natCast_mul] at this
      omega

end Go.Proofs.Ytfboddnpkaiifaa
/- cut: shape; the document's laid. -/
namespace Go.Proofs.Ytfboddnpkaiifaa
open Go.RowKit

set_option maxRecDepth 100000 in
set_option maxHeartbeats 8000000 in
theorem shape_l (k n g z s t q l : Nat) (p : Int) (w : World) (hk : ¬ k = 0)
    (u1 : ∀ w, Calls Try.prog 51 #[.int .i64 z, .int .i64 g] w fun e w' => e = .returned (.int .i64 s) ∧ w = w')
    (u2 : ∀ w, Calls Try.prog 51 #[.int .i64 t, .int .i64 k] w fun e w' => e = .returned (.int .i64 l) ∧ w = w')
    (w1 : wrap64 ((s : Int) - 1) = (s : Int) - 1) (w2 : wrap64 (((s : Int) - 1) * g) = p) (w3 : wrap64 ((z : Int) - p) = t) (w4 : wrap64 ((g : Int) / (k : Int)) = (q : Int))
    (i1 : IntKind.i64.wrap ((s : Int) - 1) = (s : Int) - 1) (i2 : IntKind.i64.wrap (((s : Int) - 1) * g) = p) (i3 : IntKind.i64.wrap ((z : Int) - p) = t) (i4 : IntKind.i64.wrap ((g : Int) / (k : Int)) = (q : Int)) (i5 : IntKind.i64.wrap ((g : Int).tdiv (k : Int)) = (q : Int)) :
    Calls Try.prog 55 #[.int .i64 k, .int .i64 n, .int .i64 g, .int .i64 z] w fun e w' => e = .returned (Sh.val ⟨k, n, g, z, s, t, q, l⟩) ∧ w.grownBy w' none := by
  have U1 := Lib.hid u1
  have U2 := Lib.hid u2
  clear u1 u2
  go_enter Try.func55, Try.ntmps55
  go_wp2_with fail
  go_region_held3 (fun w' => True) (exact trivial) ((go_at_call 51; refine (U1.out _).mono ?_; rintro e w' ⟨rfl, rfl⟩))
  all_goals go_wp2_with fail
  all_goals (refine (U2.out _).mono ?_; rintro e w' ⟨rfl, rfl⟩)
  all_goals go_wp2_with fail
  all_goals
    refine bodyPost_ret (v := Sh.val ⟨k, n, g, z, s, t, q, l⟩) (results_cell_row rfl _ _ w.heap.size 47 #[.int .i64 k, .int .i64 n, .int .i64 g, .int .i64 z, .int .i64 s, .int .i64 t, .int .i64 q, .int .i64 l] (0, 0) _ rfl ?_ Try.underlying47 rfl (by kernel_rfl)) rfl ⟨rfl, ?_⟩
    · show (World.alloc (World.alloc w _) _).heap[w.heap.size]? = _
      rw [Below.heap_alloc _ _ _ (by simp), heap_alloc_new]
    · exact grownBy_trans (grownBy_al (World.grownBy_alloc _ _ _) _) (grownBy_drewN _ 1 none)

/-- what the lines of a shape need of its numbers -/
structure Nums (k g z : Nat) : Prop where
  k1 : 1 ≤ k
  k2 : k ≤ 255
  g1 : 1 ≤ g
  g2 : g ≤ 65791
  z1 : 1 ≤ z
  z2 : z ≤ 16777216

/-- the numbers' laws, as the walks want them -/
structure Laid (k g z s t q l : Nat) (p : Int) : Prop where
  s1 : s ≤ 16777216
  t1 : 1 ≤ t
  t2 : t ≤ 65791
  e1 : upN z g = s
  e2 : upN t k = l
  et : tailN g z = t
  eq : g / k = q
  h2 : ((s : Int) - 1) * g = p
  h3 : (z : Int) - p = t
  w1 : wrap64 ((s : Int) - 1) = (s : Int) - 1
  w2 : wrap64 (((s : Int) - 1) * g) = p
  w3 : wrap64 ((z : Int) - p) = t
  w4 : wrap64 ((g : Int) / (k : Int)) = (q : Int)
  i1 : IntKind.i64.wrap ((s : Int) - 1) = (s : Int) - 1
  i2 : IntKind.i64.wrap (((s : Int) - 1) * g) = p
  i3 : IntKind.i64.wrap ((z : Int) - p) = t
  i4 : IntKind.i64.wrap ((g : Int) / (k : Int)) = (q : Int)
  i5 : IntKind.i64.wrap ((g : Int).tdiv (k : Int)) = (q : Int)

theorem nums_laid {k g z : Nat} (h : Nums k g z) : ∃ s t q l p, Laid k g z s t q l p := by
  obtain ⟨k1, k2, g1, g2, z1, z2⟩ := h
  have hs1 := segs_pos g1 z1
  have hs2 : segsN g z ≤ z := upN_small g1
  have ht1 := tail_pos g1 z1
  have ht2 := tail_le g1 z1
  have hte := tail_eq g1 z1
  have hql : g / k ≤ g := Nat.div_le_self _ _
  have ht3 : ((segsN g z : Int) - 1) * g = (z : Int) - (tailN g z : Nat) := by
    have h' : (((segsN g z - 1) * g + tailN g z : Nat) : Int) = (z : Int) := by rw [hte]
    rw [Int.natCast_add, Int.natCast_mul, Int.natCast_sub hs1] at h'
    simp at h'
    omega
  obtain ⟨s, es⟩ : ∃ s, s = segsN g z := ⟨_, rfl⟩
  obtain ⟨t, et⟩ : ∃ t, t = tailN g z := ⟨_, rfl⟩
  obtain ⟨q, eq⟩ : ∃ q, q = g / k := ⟨_, rfl⟩
  obtain ⟨p, ep⟩ : ∃ p, p = ((s : Int) - 1) * g := ⟨_, rfl⟩
  have hq1 : (g : Int) / (k : Int) = (q : Int) := by rw [eq]; rfl
  have hq2 : (g : Int).tdiv (k : Int) = (q : Int) := by rw [eq]; rfl
  rw [← es] at hs1 hs2 ht3
  rw [← et] at ht1 ht2 ht3
  rw [← eq] at hql
  rw [← ep] at ht3
  refine ⟨s, t, q, upN t k, p, ⟨by omega, ht1, by omega, es.symm, rfl, et.symm, eq.symm, ep.symm, by omega, IntWalk.wrap64_in _ (by omega), ?_, IntWalk.wrap64_in _ (by omega) |>.trans (by omega), ?_, IntWalk.i64_in _ (by omega), ?_, IntWalk.i64_in _ (by omega) |>.trans (by omega), ?_, ?_⟩⟩
  · rw [← ep]; exact IntWalk.wrap64_in _ (by omega)
  · rw [hq1]; exact IntWalk.wrap64_in _ (by omega)
  · rw [← ep]; exact IntWalk.i64_in _ (by omega)
  · rw [hq1]; exact IntWalk.i64_in _ (by omega)
  · rw [hq2]; exact IntWalk.i64_in _ (by omega)

theorem Laid.val {k n g z s t q l : Nat} {p : Int} (h : Laid k g z s t q l p) : laidN k n g z = ⟨k, n, g, z, s, t, q, l⟩ := by
  unfold laidN segsN
  rw [h.e1, h.et, h.eq, h.e2]

theorem shape_n (k n g z : Nat) (w : World) (h : Nums k g z) :
    Calls Try.prog 55 #[.int .i64 k, .int .i64 n, .int .i64 g, .int .i64 z] w fun e w' => e = .returned (laidN k n g z).val ∧ w.grownBy w' none := by
  obtain ⟨s, t, q, l, p, L⟩ := nums_laid h
  rw [L.val]
  refine shape_l k n g z s t q l p w (by have := h.k1; omega) (fun w => ?_) (fun w => ?_) L.w1 L.w2 L.w3 L.w4 L.i1 L.i2 L.i3 L.i4 L.i5
  · have := up_n z g w (by have := h.z2; omega) h.g1 (by have := h.g2; omega)
    rwa [L.e1] at this
  · have := up_n t k w (by have := L.t2; omega) h.k1 (by have := h.k2; omega)
    rwa [L.e2] at this

end Go.Proofs.Ytfboddnpkaiifaa
/- cut: Shape, where all is well. -/
namespace Go.Proofs.Ytfboddnpkaiifaa
open Go.RowKit

theorem results_ct {P : Program} {fn : Func} {p q : Tmp} {ty : TypeId} (h : fn.results = #[.cell p ty, .tmp q]) (tmps : Array Value) (w : World) (g : Nat) (t : TypeId) (cs : Array Value) (fr : Nat × Nat) (d : TypeDesc) (v : Value)
    (hp : tmps.getD p undef = .pointer (some ⟨g, 0, none⟩)) (hq : tmps.getD q undef = v) (hg : w.heap[g]? = some (.cells cs t fr))
    (hu : P.underlying ty = some d) (hd : (match d with | .struct _ | .array _ _ => true | _ => false) = true) (hi : (P.info? ty).map (·.size) = some cs.size) :
    (results fn tmps).run P w = .ok (.tuple #[.agg cs, v]) w := by
  have hp' : tmps[p]?.getD undef = .pointer (some ⟨g, 0, none⟩) := by simpa using hp
  have hq' : tmps[q]?.getD undef = v := by simpa using hq
  simp [results, h, hp', hq', asAddr, run_loadVar_row w g t ty cs fr d hg hu hd hi]
theorem size_shape : (Try.prog.info? 47).map (·.size) = some 8 := by kernel_rfl
theorem heap_grown {w w' : World} {g : Nat} {o : Obj} (h : w.heap[g]? = some o) (hg : w.grownBy w' none) : w'.heap[g]? = some o := (hg.block g (Array.getElem?_eq_some_iff.1 h).1 (by simp)).trans h
theorem grownBy_d1 {a b : World} {r : Option Nat} (h : a.grownBy b r) : a.grownBy b.drew r := ⟨h.os, h.tape, h.output, h.size, h.block⟩

set_option maxRecDepth 100000 in
set_option maxHeartbeats 4000000 in
theorem shape_g (k n seg z u G s t q l : Nat) (happy : Int) (a : Option Addr) (ln c : Nat) (w : World) (hz1 : 32 < z) (hz2 : z ≤ 16777216)
    (hc : ∀ w, Calls Try.prog 30 #[.agg #[.int .i64 k, .int .i64 n, .int .i64 seg, .int .i64 happy, .slice a ln c]] w fun e w' => e = .returned (.int .i64 0) ∧ w.grownBy w' none)
    (hu : ∀ w, Calls Try.prog 51 #[.int .i64 seg, .int .i64 k] w fun e w' => e = .returned (.int .i64 u) ∧ w = w')
    (hs : ∀ w, Calls Try.prog 55 #[.int .i64 k, .int .i64 n, .int .i64 G, .int .i64 z] w fun e w' => e = .returned (.agg #[.int .i64 k, .int .i64 n, .int .i64 G, .int .i64 z, .int .i64 s, .int .i64 t, .int .i64 q, .int .i64 l]) ∧ w.grownBy w' none)
    (m1 : IntKind.i64.wrap ((k : Int) * (u : Int)) = (G : Int)) (m2 : wrap64 ((k : Int) * (u : Int)) = (G : Int)) :
    Calls Try.prog 29 #[.agg #[.int .i64 k, .int .i64 n, .int .i64 seg, .int .i64 happy, .slice a ln c], .int .i64 z] w fun e w' => e = .returned (if s ≤ 512 then .tuple #[.agg #[.int .i64 k, .int .i64 n, .int .i64 G, .int .i64 z, .int .i64 s, .int .i64 t, .int .i64 q, .int .i64 l], .int .i64 0] else .tuple #[.agg #[.int .i64 0, .int .i64 0, .int .i64 0, .int .i64 0, .int .i64 0, .int .i64 0, .int .i64 0, .int .i64 0], .int .i64 3]) ∧ w.grownBy w' none := by
  have HC := Lib.hid hc
  have HU := Lib.hid hu
  have HS := Lib.hid hs
  have HCL : Hid (Clo (fun w' => w.grownBy w' none ∧ w'.heap[w.heap.size]? = some (.cells #[.int .i64 k, .int .i64 n, .int .i64 seg, .int .i64 happy, .slice a ln c] 45 (0, 0)) ∧ w'.heap[w.heap.size + 1]? = some (.cells #[.int .i64 0, .int .i64 0, .int .i64 0, .int .i64 0, .int .i64 0, .int .i64 0, .int .i64 0, .int .i64 0] 47 (0, 0)))) := fun w1 w2 h hg => ⟨grownBy_trans h.1 hg, heap_grown h.2.1 hg, heap_grown h.2.2 hg⟩
  have HW0 : Hid (((fun w' => w.grownBy w' none ∧ w'.heap[w.heap.size]? = some (.cells #[.int .i64 k, .int .i64 n, .int .i64 seg, .int .i64 happy, .slice a ln c] 45 (0, 0)) ∧ w'.heap[w.heap.size + 1]? = some (.cells #[.int .i64 0, .int .i64 0, .int .i64 0, .int .i64 0, .int .i64 0, .int .i64 0, .int .i64 0, .int .i64 0] 47 (0, 0))) : World → Prop) ((w.alloc (.cells #[.int .i64 k, .int .i64 n, .int .i64 seg, .int .i64 happy, .slice a ln c] 45)).alloc (.cells #[.int .i64 0, .int .i64 0, .int .i64 0, .int .i64 0, .int .i64 0, .int .i64 0, .int .i64 0, .int .i64 0] 47))) := ⟨grownBy_al (World.grownBy_alloc _ _ _) _, by rw [Below.heap_alloc _ _ _ (by simp), heap_alloc_new], by have h := heap_alloc_new (w.alloc (.cells #[.int .i64 k, .int .i64 n, .int .i64 seg, .int .i64 happy, .slice a ln c] 45)) (.cells #[.int .i64 0, .int .i64 0, .int .i64 0, .int .i64 0, .int .i64 0, .int .i64 0, .int .i64 0, .int .i64 0] 47); rw [World.size_alloc] at h; exact h⟩
  clear hc hu hs
  go_enter Try.func29, Try.ntmps29
  go_wp2_with fail
  refine (HC.out _).mono ?_
  rintro e w1 ⟨rfl, g⟩
  have HW1 := Lib.hid (HCL.out _ _ HW0.out g)
  clear g HW0
  go_upto_region 6 with fail
  refine wp_regionX (fun w' => w.grownBy w' none ∧ w'.heap[w.heap.size]? = some (.cells #[.int .i64 k, .int .i64 n, .int .i64 seg, .int .i64 happy, .slice a ln c] 45 (0, 0)) ∧ w'.heap[w.heap.size + 1]? = some (.cells #[.int .i64 0, .int .i64 0, .int .i64 0, .int .i64 0, .int .i64 0, .int .i64 0, .int .i64 0, .int .i64 0] 47 (0, 0))) 15 (by kernel_rfl) (HCL.out _ _ HW1.out (grownBy_d1 (World.grownBy.refl _ _))) ?_
  refine wpX_take 0 (v := .pointer (some ⟨w.heap.size, 0, none⟩)) (oi := { dst := some 21, op := Op.fieldAddr 45 (Operand.tmp 2) 0, type := 0, pos := "cut.go:41", after := #[], guard := none }) (oL := { dst := none, op := Op.store 47 (Operand.tmp 7) (Operand.tmp 34), type := 0, pos := "cut.go:41", after := #[{ on := 14, ground := Ground.data }, { on := 13, ground := Ground.data }, { on := 13, ground := Ground.chain }, { on := 0, ground := Ground.phase }, { on := 1, ground := Ground.phase }, { on := 2, ground := Ground.phase }, { on := 3, ground := Ground.phase }, { on := 4, ground := Ground.phase }, { on := 5, ground := Ground.phase }, { on := 6, ground := Ground.phase }, { on := 7, ground := Ground.phase }, { on := 8, ground := Ground.phase }, { on := 9, ground := Ground.phase }, { on := 10, ground := Ground.phase }, { on := 11, ground := Ground.phase }, { on := 12, ground := Ground.phase }, { on := 13, ground := Ground.phase }, { on := 14, ground := Ground.phase }], guard := none }) HCL.out rfl rfl rfl (by kernel_rfl) (by kernel_rfl) (by kernel_rfl) (by kernel_rfl) (by kernel_rfl) (fun _ _ _ h => h) (YG.val (by rfl) (fun _ _ => by go_simp)) ?_
  simp only [Act.put, List.setIfInBounds_toArray, List.set_cons_zero, List.set_cons_succ]
  refine wpX_take 1 (v := .int .i64 k) (oi := { dst := some 22, op := Op.load 3 (Operand.tmp 21), type := 3, pos := "cut.go:41", after := #[{ on := 0, ground := Ground.data }], guard := none }) (oL := { dst := none, op := Op.store 47 (Operand.tmp 7) (Operand.tmp 34), type := 0, pos := "cut.go:41", after := #[{ on := 14, ground := Ground.data }, { on := 13, ground := Ground.data }, { on := 13, ground := Ground.chain }, { on := 0, ground := Ground.phase }, { on := 1, ground := Ground.phase }, { on := 2, ground := Ground.phase }, { on := 3, ground := Ground.phase }, { on := 4, ground := Ground.phase }, { on := 5, ground := Ground.phase }, { on := 6, ground := Ground.phase }, { on := 7, ground := Ground.phase }, { on := 8, ground := Ground.phase }, { on := 9, ground := Ground.phase }, { on := 10, ground := Ground.phase }, { on := 11, ground := Ground.phase }, { on := 12, ground := Ground.phase }, { on := 13, ground := Ground.phase }, { on := 14, ground := Ground.phase }], guard := none }) HCL.out rfl rfl rfl (by kernel_rfl) (by kernel_rfl) (by kernel_rfl) (by kernel_rfl) (by kernel_rfl) (fun _ _ _ h => h) (YG.val (by rfl) (fun w' hS => by have h : w'.cell? ⟨w.heap.size, 0, none⟩ = some (.int .i64 k) := (by simp only [World.cell?, hS.2.1]; rfl); go_simp)) ?_
  simp only [Act.put, List.setIfInBounds_toArray, List.set_cons_zero, List.set_cons_succ]
  refine wpX_take 2 (v := .pointer (some ⟨w.heap.size, 1, none⟩)) (oi := { dst := some 23, op := Op.fieldAddr 45 (Operand.tmp 2) 1, type := 0, pos := "cut.go:41", after := #[], guard := none }) (oL := { dst := none, op := Op.store 47 (Operand.tmp 7) (Operand.tmp 34), type := 0, pos := "cut.go:41", after := #[{ on := 14, ground := Ground.data }, { on := 13, ground := Ground.data }, { on := 13, ground := Ground.chain }, { on := 0, ground := Ground.phase }, { on := 1, ground := Ground.phase }, { on := 2, ground := Ground.phase }, { on := 3, ground := Ground.phase }, { on := 4, ground := Ground.phase }, { on := 5, ground := Ground.phase }, { on := 6, ground := Ground.phase }, { on := 7, ground := Ground.phase }, { on := 8, ground := Ground.phase }, { on := 9, ground := Ground.phase }, { on := 10, ground := Ground.phase }, { on := 11, ground := Ground.phase }, { on := 12, ground := Ground.phase }, { on := 13, ground := Ground.phase }, { on := 14, ground := Ground.phase }], guard := none }) HCL.out rfl rfl rfl (by kernel_rfl) (by kernel_rfl) (by kernel_rfl) (by kernel_rfl) (by kernel_rfl) (fun _ _ _ h => h) (YG.val (by rfl) (fun _ _ => by go_simp)) ?_
  simp only [Act.put, List.setIfInBounds_toArray, List.set_cons_zero, List.set_cons_succ]
  refine wpX_take 3 (v := .int .i64 n) (oi := { dst := some 24, op := Op.load 3 (Operand.tmp 23), type := 3, pos := "cut.go:41", after := #[{ on := 2, ground := Ground.data }], guard := none }) (oL := { dst := none, op := Op.store 47 (Operand.tmp 7) (Operand.tmp 34), type := 0, pos := "cut.go:41", after := #[{ on := 14, ground := Ground.data }, { on := 13, ground := Ground.data }, { on := 13, ground := Ground.chain }, { on := 0, ground := Ground.phase }, { on := 1, ground := Ground.phase }, { on := 2, ground := Ground.phase }, { on := 3, ground := Ground.phase }, { on := 4, ground := Ground.phase }, { on := 5, ground := Ground.phase }, { on := 6, ground := Ground.phase }, { on := 7, ground := Ground.phase }, { on := 8, ground := Ground.phase }, { on := 9, ground := Ground.phase }, { on := 10, ground := Ground.phase }, { on := 11, ground := Ground.phase }, { on := 12, ground := Ground.phase }, { on := 13, ground := Ground.phase }, { on := 14, ground := Ground.phase }], guard := none }) HCL.out rfl rfl rfl (by kernel_rfl) (by kernel_rfl) (by kernel_rfl) (by kernel_rfl) (by kernel_rfl) (fun _ _ _ h => h) (YG.val (by rfl) (fun w' hS => by have h : w'.cell? ⟨w.heap.size, 1, none⟩ = some (.int .i64 n) := (by simp only [World.cell?, hS.2.1]; rfl); go_simp)) ?_
  simp only [Act.put, List.setIfInBounds_toArray, List.set_cons_zero, List.set_cons_succ]
  refine wpX_take 4 (v := .pointer (some ⟨w.heap.size, 0, none⟩)) (oi := { dst := some 25, op := Op.fieldAddr 45 (Operand.tmp 2) 0, type := 0, pos := "cut.go:41", after := #[], guard := none }) (oL := { dst := none, op := Op.store 47 (Operand.tmp 7) (Operand.tmp 34), type := 0, pos := "cut.go:41", after := #[{ on := 14, ground := Ground.data }, { on := 13, ground := Ground.data }, { on := 13, ground := Ground.chain }, { on := 0, ground := Ground.phase }, { on := 1, ground := Ground.phase }, { on := 2, ground := Ground.phase }, { on := 3, ground := Ground.phase }, { on := 4, ground := Ground.phase }, { on := 5, ground := Ground.phase }, { on := 6, ground := Ground.phase }, { on := 7, ground := Ground.phase }, { on := 8, ground := Ground.phase }, { on := 9, ground := Ground.phase }, { on := 10, ground := Ground.phase }, { on := 11, ground := Ground.phase }, { on := 12, ground := Ground.phase }, { on := 13, ground := Ground.phase }, { on := 14, ground := Ground.phase }], guard := none }) HCL.out rfl rfl rfl (by kernel_rfl) (by kernel_rfl) (by kernel_rfl) (by kernel_rfl) (by kernel_rfl) (fun _ _ _ h => h) (YG.val (by rfl) (fun _ _ => by go_simp)) ?_
  simp only [Act.put, List.setIfInBounds_toArray, List.set_cons_zero, List.set_cons_succ]
  refine wpX_take 5 (v := .int .i64 k) (oi := { dst := some 26, op := Op.load 3 (Operand.tmp 25), type := 3, pos := "cut.go:41", after := #[{ on := 4, ground := Ground.data }], guard := none }) (oL := { dst := none, op := Op.store 47 (Operand.tmp 7) (Operand.tmp 34), type := 0, pos := "cut.go:41", after := #[{ on := 14, ground := Ground.data }, { on := 13, ground := Ground.data }, { on := 13, ground := Ground.chain }, { on := 0, ground := Ground.phase }, { on := 1, ground := Ground.phase }, { on := 2, ground := Ground.phase }, { on := 3, ground := Ground.phase }, { on := 4, ground := Ground.phase }, { on := 5, ground := Ground.phase }, { on := 6, ground := Ground.phase }, { on := 7, ground := Ground.phase }, { on := 8, ground := Ground.phase }, { on := 9, ground := Ground.phase }, { on := 10, ground := Ground.phase }, { on := 11, ground := Ground.phase }, { on := 12, ground := Ground.phase }, { on := 13, ground := Ground.phase }, { on := 14, ground := Ground.phase }], guard := none }) HCL.out rfl rfl rfl (by kernel_rfl) (by kernel_rfl) (by kernel_rfl) (by kernel_rfl) (by kernel_rfl) (fun _ _ _ h => h) (YG.val (by rfl) (fun w' hS => by have h : w'.cell? ⟨w.heap.size, 0, none⟩ = some (.int .i64 k) := (by simp only [World.cell?, hS.2.1]; rfl); go_simp)) ?_
  simp only [Act.put, List.setIfInBounds_toArray, List.set_cons_zero, List.set_cons_succ]
  refine wpX_take 6 (v := .pointer (some ⟨w.heap.size, 2, none⟩)) (oi := { dst := some 27, op := Op.fieldAddr 45 (Operand.tmp 2) 2, type := 0, pos := "cut.go:41", after := #[], guard := none }) (oL := { dst := none, op := Op.store 47 (Operand.tmp 7) (Operand.tmp 34), type := 0, pos := "cut.go:41", after := #[{ on := 14, ground := Ground.data }, { on := 13, ground := Ground.data }, { on := 13, ground := Ground.chain }, { on := 0, ground := Ground.phase }, { on := 1, ground := Ground.phase }, { on := 2, ground := Ground.phase }, { on := 3, ground := Ground.phase }, { on := 4, ground := Ground.phase }, { on := 5, ground := Ground.phase }, { on := 6, ground := Ground.phase }, { on := 7, ground := Ground.phase }, { on := 8, ground := Ground.phase }, { on := 9, ground := Ground.phase }, { on := 10, ground := Ground.phase }, { on := 11, ground := Ground.phase }, { on := 12, ground := Ground.phase }, { on := 13, ground := Ground.phase }, { on := 14, ground := Ground.phase }], guard := none }) HCL.out rfl rfl rfl (by kernel_rfl) (by kernel_rfl) (by kernel_rfl) (by kernel_rfl) (by kernel_rfl) (fun _ _ _ h => h) (YG.val (by rfl) (fun _ _ => by go_simp)) ?_
  simp only [Act.put, List.setIfInBounds_toArray, List.set_cons_zero, List.set_cons_succ]
  refine wpX_take 7 (v := .int .i64 seg) (oi := { dst := some 28, op := Op.load 3 (Operand.tmp 27), type := 3, pos := "cut.go:41", after := #[{ on := 6, ground := Ground.data }], guard := none }) (oL := { dst := none, op := Op.store 47 (Operand.tmp 7) (Operand.tmp 34), type := 0, pos := "cut.go:41", after := #[{ on := 14, ground := Ground.data }, { on := 13, ground := Ground.data }, { on := 13, ground := Ground.chain }, { on := 0, ground := Ground.phase }, { on := 1, ground := Ground.phase }, { on := 2, ground := Ground.phase }, { on := 3, ground := Ground.phase }, { on := 4, ground := Ground.phase }, { on := 5, ground := Ground.phase }, { on := 6, ground := Ground.phase }, { on := 7, ground := Ground.phase }, { on := 8, ground := Ground.phase }, { on := 9, ground := Ground.phase }, { on := 10, ground := Ground.phase }, { on := 11, ground := Ground.phase }, { on := 12, ground := Ground.phase }, { on := 13, ground := Ground.phase }, { on := 14, ground := Ground.phase }], guard := none }) HCL.out rfl rfl rfl (by kernel_rfl) (by kernel_rfl) (by kernel_rfl) (by kernel_rfl) (by kernel_rfl) (fun _ _ _ h => h) (YG.val (by rfl) (fun w' hS => by have h : w'.cell? ⟨w.heap.size, 2, none⟩ = some (.int .i64 seg) := (by simp only [World.cell?, hS.2.1]; rfl); go_simp)) ?_
  simp only [Act.put, List.setIfInBounds_toArray, List.set_cons_zero, List.set_cons_succ]
  refine wpX_take 8 (v := .pointer (some ⟨w.heap.size, 0, none⟩)) (oi := { dst := some 29, op := Op.fieldAddr 45 (Operand.tmp 2) 0, type := 0, pos := "cut.go:41", after := #[], guard := none }) (oL := { dst := none, op := Op.store 47 (Operand.tmp 7) (Operand.tmp 34), type := 0, pos := "cut.go:41", after := #[{ on := 14, ground := Ground.data }, { on := 13, ground := Ground.data }, { on := 13, ground := Ground.chain }, { on := 0, ground := Ground.phase }, { on := 1, ground := Ground.phase }, { on := 2, ground := Ground.phase }, { on := 3, ground := Ground.phase }, { on := 4, ground := Ground.phase }, { on := 5, ground := Ground.phase }, { on := 6, ground := Ground.phase }, { on := 7, ground := Ground.phase }, { on := 8, ground := Ground.phase }, { on := 9, ground := Ground.phase }, { on := 10, ground := Ground.phase }, { on := 11, ground := Ground.phase }, { on := 12, ground := Ground.phase }, { on := 13, ground := Ground.phase }, { on := 14, ground := Ground.phase }], guard := none }) HCL.out rfl rfl rfl (by kernel_rfl) (by kernel_rfl) (by kernel_rfl) (by kernel_rfl) (by kernel_rfl) (fun _ _ _ h => h) (YG.val (by rfl) (fun _ _ => by go_simp)) ?_
  simp only [Act.put, List.setIfInBounds_toArray, List.set_cons_zero, List.set_cons_succ]
  refine wpX_take 9 (v := .int .i64 k) (oi := { dst := some 30, op := Op.load 3 (Operand.tmp 29), type := 3, pos := "cut.go:41", after := #[{ on := 8, ground := Ground.data }], guard := none }) (oL := { dst := none, op := Op.store 47 (Operand.tmp 7) (Operand.tmp 34), type := 0, pos := "cut.go:41", after := #[{ on := 14, ground := Ground.data }, { on := 13, ground := Ground.data }, { on := 13, ground := Ground.chain }, { on := 0, ground := Ground.phase }, { on := 1, ground := Ground.phase }, { on := 2, ground := Ground.phase }, { on := 3, ground := Ground.phase }, { on := 4, ground := Ground.phase }, { on := 5, ground := Ground.phase }, { on := 6, ground := Ground.phase }, { on := 7, ground := Ground.phase }, { on := 8, ground := Ground.phase }, { on := 9, ground := Ground.phase }, { on := 10, ground := Ground.phase }, { on := 11, ground := Ground.phase }, { on := 12, ground := Ground.phase }, { on := 13, ground := Ground.phase }, { on := 14, ground := Ground.phase }], guard := none }) HCL.out rfl rfl rfl (by kernel_rfl) (by kernel_rfl) (by kernel_rfl) (by kernel_rfl) (by kernel_rfl) (fun _ _ _ h => h) (YG.val (by rfl) (fun w' hS => by have h : w'.cell? ⟨w.heap.size, 0, none⟩ = some (.int .i64 k) := (by simp only [World.cell?, hS.2.1]; rfl); go_simp)) ?_
  simp only [Act.put, List.setIfInBounds_toArray, List.set_cons_zero, List.set_cons_succ]
  refine wpX_take 10 (v := .int .i64 u) (oi := { dst := some 31, op := Op.call { callee := Callee.value (Operand.func 51), args := #[Operand.tmp 28, Operand.tmp 30], argTypes := #[3, 3] }, type := 3, pos := "cut.go:41", after := #[{ on := 7, ground := Ground.data }, { on := 9, ground := Ground.data }], guard := none }) (oL := { dst := none, op := Op.store 47 (Operand.tmp 7) (Operand.tmp 34), type := 0, pos := "cut.go:41", after := #[{ on := 14, ground := Ground.data }, { on := 13, ground := Ground.data }, { on := 13, ground := Ground.chain }, { on := 0, ground := Ground.phase }, { on := 1, ground := Ground.phase }, { on := 2, ground := Ground.phase }, { on := 3, ground := Ground.phase }, { on := 4, ground := Ground.phase }, { on := 5, ground := Ground.phase }, { on := 6, ground := Ground.phase }, { on := 7, ground := Ground.phase }, { on := 8, ground := Ground.phase }, { on := 9, ground := Ground.phase }, { on := 10, ground := Ground.phase }, { on := 11, ground := Ground.phase }, { on := 12, ground := Ground.phase }, { on := 13, ground := Ground.phase }, { on := 14, ground := Ground.phase }], guard := none }) HCL.out rfl rfl rfl (by kernel_rfl) (by kernel_rfl) (by kernel_rfl) (by kernel_rfl) (by kernel_rfl) (fun _ _ _ h => h) (YG.call (f := 51) (args := #[.int .i64 seg, .int .i64 k]) (by rfl) (fun w => by go_simp) (fun w' _ => (HU.out w').mono fun _ _ h => ⟨h.1, h.2 ▸ World.grownBy.refl _ _⟩)) ?_
  simp only [Act.put, List.setIfInBounds_toArray, List.set_cons_zero, List.set_cons_succ]
  refine wpX_take 11 (v := .int .i64 G) (oi := { dst := some 32, op := Op.binOp BinOp.mul 3 (Operand.tmp 26) (Operand.tmp 31) 3, type := 3, pos := "cut.go:41", after := #[{ on := 5, ground := Ground.data }, { on := 10, ground := Ground.data }], guard := none }) (oL := { dst := none, op := Op.store 47 (Operand.tmp 7) (Operand.tmp 34), type := 0, pos := "cut.go:41", after := #[{ on := 14, ground := Ground.data }, { on := 13, ground := Ground.data }, { on := 13, ground := Ground.chain }, { on := 0, ground := Ground.phase }, { on := 1, ground := Ground.phase }, { on := 2, ground := Ground.phase }, { on := 3, ground := Ground.phase }, { on := 4, ground := Ground.phase }, { on := 5, ground := Ground.phase }, { on := 6, ground := Ground.phase }, { on := 7, ground := Ground.phase }, { on := 8, ground := Ground.phase }, { on := 9, ground := Ground.phase }, { on := 10, ground := Ground.phase }, { on := 11, ground := Ground.phase }, { on := 12, ground := Ground.phase }, { on := 13, ground := Ground.phase }, { on := 14, ground := Ground.phase }], guard := none }) HCL.out rfl rfl rfl (by kernel_rfl) (by kernel_rfl) (by kernel_rfl) (by kernel_rfl) (by kernel_rfl) (fun _ _ _ h => h) (YG.val (by rfl) (fun _ _ => by go_simp)) ?_
  simp only [Act.put, List.setIfInBounds_toArray, List.set_cons_zero, List.set_cons_succ]
  refine wpX_take 12 (oi := { dst := some 33, op := Op.move (Operand.tmp 1), type := 3, pos := "cut.go:41", after := #[], guard := none }) (oL := { dst := none, op := Op.store 47 (Operand.tmp 7) (Operand.tmp 34), type := 0, pos := "cut.go:41", after := #[{ on := 14, ground := Ground.data }, { on := 13, ground := Ground.data }, { on := 13, ground := Ground.chain }, { on := 0, ground := Ground.phase }, { on := 1, ground := Ground.phase }, { on := 2, ground := Ground.phase }, { on := 3, ground := Ground.phase }, { on := 4, ground := Ground.phase }, { on := 5, ground := Ground.phase }, { on := 6, ground := Ground.phase }, { on := 7, ground := Ground.phase }, { on := 8, ground := Ground.phase }, { on := 9, ground := Ground.phase }, { on := 10, ground := Ground.phase }, { on := 11, ground := Ground.phase }, { on := 12, ground := Ground.phase }, { on := 13, ground := Ground.phase }, { on := 14, ground := Ground.phase }], guard := none }) HCL.out rfl rfl rfl (by kernel_rfl) (by kernel_rfl) (by kernel_rfl) (by kernel_rfl) (by kernel_rfl) (fun _ _ _ h => h) (YG.val (by rfl) (fun _ _ => rfl)) ?_
  simp only [Act.put, List.setIfInBounds_toArray, List.set_cons_zero, List.set_cons_succ]
  refine wpX_take 13 (v := .agg #[.int .i64 k, .int .i64 n, .int .i64 G, .int .i64 z, .int .i64 s, .int .i64 t, .int .i64 q, .int .i64 l]) (oi := { dst := some 34, op := Op.call { callee := Callee.value (Operand.func 55), args := #[Operand.tmp 22, Operand.tmp 24, Operand.tmp 32, Operand.tmp 33], argTypes := #[3, 3, 3, 3] }, type := 47, pos := "cut.go:41", after := #[{ on := 1, ground := Ground.data }, { on := 3, ground := Ground.data }, { on := 11, ground := Ground.data }, { on := 12, ground := Ground.data }, { on := 10, ground := Ground.chain }], guard := none }) (oL := { dst := none, op := Op.store 47 (Operand.tmp 7) (Operand.tmp 34), type := 0, pos := "cut.go:41", after := #[{ on := 14, ground := Ground.data }, { on := 13, ground := Ground.data }, { on := 13, ground := Ground.chain }, { on := 0, ground := Ground.phase }, { on := 1, ground := Ground.phase }, { on := 2, ground := Ground.phase }, { on := 3, ground := Ground.phase }, { on := 4, ground := Ground.phase }, { on := 5, ground := Ground.phase }, { on := 6, ground := Ground.phase }, { on := 7, ground := Ground.phase }, { on := 8, ground := Ground.phase }, { on := 9, ground := Ground.phase }, { on := 10, ground := Ground.phase }, { on := 11, ground := Ground.phase }, { on := 12, ground := Ground.phase }, { on := 13, ground := Ground.phase }, { on := 14, ground := Ground.phase }], guard := none }) HCL.out rfl rfl rfl (by kernel_rfl) (by kernel_rfl) (by kernel_rfl) (by kernel_rfl) (by kernel_rfl) (fun _ _ _ h => h) (YG.call (f := 55) (args := #[.int .i64 k, .int .i64 n, .int .i64 G, .int .i64 z]) (by rfl) (fun w => by go_simp) (fun w' _ => HS.out w')) ?_
  simp only [Act.put, List.setIfInBounds_toArray, List.set_cons_zero, List.set_cons_succ]
  refine wpX_step 14 (o := { dst := some 7, op := Op.alloc 47, type := 0, pos := "cut.go:41", after := #[], guard := none }) rfl rfl (by kernel_rfl) (by rfl) (fun w2 hS2 K hK => ?_)
  have HS2 := Lib.hid hS2
  have HK := Lib.hid hK
  clear hS2 hK
  go_simp
  have hl2 : w.heap.size + 1 < w2.heap.size := (Array.getElem?_eq_some_iff.1 HS2.out.2.2).1
  refine HK.out (fun w3 => (w.grownBy w3 none ∧ w3.heap[w.heap.size]? = some (.cells #[.int .i64 k, .int .i64 n, .int .i64 seg, .int .i64 happy, .slice a ln c] 45 (0, 0)) ∧ w3.heap[w.heap.size + 1]? = some (.cells #[.int .i64 0, .int .i64 0, .int .i64 0, .int .i64 0, .int .i64 0, .int .i64 0, .int .i64 0, .int .i64 0] 47 (0, 0))) ∧ w3.heap[w2.heap.size]? = some (.cells #[.int .i64 0, .int .i64 0, .int .i64 0, .int .i64 0, .int .i64 0, .int .i64 0, .int .i64 0, .int .i64 0] 47 (0, 0))) _ _ ⟨HCL.out _ _ HS2.out (World.grownBy_alloc _ _ _), heap_alloc_new _ _⟩ (fun _ h => h.1) (fun w3 w4 h hg => ⟨HCL.out _ _ h.1 hg, heap_grown h.2 hg⟩) ?_
  refine wpX_last (oL := { dst := none, op := Op.store 47 (Operand.tmp 7) (Operand.tmp 34), type := 0, pos := "cut.go:41", after := #[{ on := 14, ground := Ground.data }, { on := 13, ground := Ground.data }, { on := 13, ground := Ground.chain }, { on := 0, ground := Ground.phase }, { on := 1, ground := Ground.phase }, { on := 2, ground := Ground.phase }, { on := 3, ground := Ground.phase }, { on := 4, ground := Ground.phase }, { on := 5, ground := Ground.phase }, { on := 6, ground := Ground.phase }, { on := 7, ground := Ground.phase }, { on := 8, ground := Ground.phase }, { on := 9, ground := Ground.phase }, { on := 10, ground := Ground.phase }, { on := 11, ground := Ground.phase }, { on := 12, ground := Ground.phase }, { on := 13, ground := Ground.phase }, { on := 14, ground := Ground.phase }], guard := none }) rfl (by kernel_rfl) (by kernel_rfl) (by rfl) (fun w3 hS3 K3 hK3 => ?_)
  refine wp_store_row 47 _ _ rfl w2.heap.size #[.int .i64 k, .int .i64 n, .int .i64 G, .int .i64 z, .int .i64 s, .int .i64 t, .int .i64 q, .int .i64 l] rfl rfl 47 _ hS3.2 size_shape rfl (by simp [Value.oneCell']) (hK3 _ _ ?_)
  obtain ⟨W, hW⟩ : ∃ W, W = w3.setRow w2.heap.size #[.int .i64 k, .int .i64 n, .int .i64 G, .int .i64 z, .int .i64 s, .int .i64 t, .int .i64 q, .int .i64 l] := ⟨_, rfl⟩
  have hg1 := grownBy_old hS3.1.1 (grownBy_setRow w3 w2.heap.size #[.int .i64 k, .int .i64 n, .int .i64 G, .int .i64 z, .int .i64 s, .int .i64 t, .int .i64 q, .int .i64 l]) (by omega)
  have hn1 : (w3.setRow w2.heap.size #[.int .i64 k, .int .i64 n, .int .i64 G, .int .i64 z, .int .i64 s, .int .i64 t, .int .i64 q, .int .i64 l]).heap[w2.heap.size]? = some (.cells #[.int .i64 k, .int .i64 n, .int .i64 G, .int .i64 z, .int .i64 s, .int .i64 t, .int .i64 q, .int .i64 l] 47 (0, 0)) := setRow_heap _ _ _ _ _ _ hS3.2
  have hr1 : (w3.setRow w2.heap.size #[.int .i64 k, .int .i64 n, .int .i64 G, .int .i64 z, .int .i64 s, .int .i64 t, .int .i64 q, .int .i64 l]).heap[w.heap.size + 1]? = some (.cells #[.int .i64 0, .int .i64 0, .int .i64 0, .int .i64 0, .int .i64 0, .int .i64 0, .int .i64 0, .int .i64 0] 47 (0, 0)) := (setRow_other w3 w2.heap.size (w.heap.size + 1) _ (by omega)).trans hS3.1.2.2
  rw [← hW] at hg1 hn1 hr1 ⊢
  have c4 : W.cell? ⟨w2.heap.size, 4, none⟩ = some (.int .i64 s) := by simp only [World.cell?, hn1]; rfl
  have HG1 := Lib.hid hg1
  have HN1 := Lib.hid hn1
  have HR1 := Lib.hid hr1
  clear hg1 hn1 hr1 hW hS3 HW1 HS2
  by_cases hsg : s ≤ 512
  · have hsi : (s : Int) ≤ 512 := by omega
    go_wp2_with (first | (refine wpList_load_row rfl 47 _ rfl w2.heap.size rfl 47 #[.int .i64 k, .int .i64 n, .int .i64 G, .int .i64 z, .int .i64 s, .int .i64 t, .int .i64 q, .int .i64 l] (0, 0) _ HN1.out Try.underlying47 rfl size_shape ?_) | (refine wpList_store_row rfl 47 _ _ rfl (w.heap.size + 1) #[.int .i64 k, .int .i64 n, .int .i64 G, .int .i64 z, .int .i64 s, .int .i64 t, .int .i64 q, .int .i64 l] rfl rfl 47 _ HR1.out size_shape rfl (by simp [Value.oneCell']) ?_))
    refine bodyPost_ret (v := .tuple #[.agg #[.int .i64 k, .int .i64 n, .int .i64 G, .int .i64 z, .int .i64 s, .int .i64 t, .int .i64 q, .int .i64 l], .int .i64 0]) (results_ct rfl _ _ (w.heap.size + 1) 47 #[.int .i64 k, .int .i64 n, .int .i64 G, .int .i64 z, .int .i64 s, .int .i64 t, .int .i64 q, .int .i64 l] (0, 0) _ _ rfl rfl (setRow_heap _ _ _ _ _ _ HR1.out) Try.underlying47 rfl size_shape) rfl ⟨by first | rfl | rw [if_pos hsg], ?_⟩
    exact grownBy_old HG1.out (grownBy_setRow _ _ _) (by omega)
  · have hsi : ¬ (s : Int) ≤ 512 := by omega
    go_wp2_with (refine wpList_store_row rfl 47 _ _ rfl (w.heap.size + 1) #[.int .i64 0, .int .i64 0, .int .i64 0, .int .i64 0, .int .i64 0, .int .i64 0, .int .i64 0, .int .i64 0] rfl rfl 47 _ HR1.out size_shape rfl (by simp [Value.oneCell']) ?_)
    refine bodyPost_ret (v := .tuple #[.agg #[.int .i64 0, .int .i64 0, .int .i64 0, .int .i64 0, .int .i64 0, .int .i64 0, .int .i64 0, .int .i64 0], .int .i64 3]) (results_ct rfl _ _ (w.heap.size + 1) 47 #[.int .i64 0, .int .i64 0, .int .i64 0, .int .i64 0, .int .i64 0, .int .i64 0, .int .i64 0, .int .i64 0] (0, 0) _ _ rfl rfl (setRow_heap _ _ _ _ _ _ HR1.out) Try.underlying47 rfl size_shape) rfl ⟨by first | rfl | rw [if_neg hsg], ?_⟩
    exact grownBy_old HG1.out (grownBy_setRow _ _ _) (by omega)

end Go.Proofs.Ytfboddnpkaiifaa
/- cut: Shape, whole. -/
namespace Go.Proofs.Ytfboddnpkaiifaa
open Go.RowKit

theorem grown_cell {w w' : World} (g : w.grownBy w' none) {a : Addr} {v : Value} (h : w.cell? a = some v) : w'.cell? a = some v :=
  (World.cell?_of_block (g.block _ (World.block_lt_of_cell? w a h) (by simp))).trans h

theorem grown_at {w w' : World} (g : w.grownBy w' none) (a : Addr) (h : a.block < w.heap.size) : w'.cell? a = w.cell? a :=
  World.cell?_of_block (g.block _ h (by simp))
theorem grown_fr {w w' : World} (g : w.grownBy w' none) (a : Addr) (h : a.block < w.heap.size) : w'.frozen? a = w.frozen? a := by
  unfold World.frozen?
  rw [g.block _ h (by simp)]

theorem set_at (w : World) (p a : Addr) (v : Value) (h : a.block ≠ p.block) : (w.setCell p v).cell? a = w.cell? a :=
  World.cell?_of_block (Below.heap_setCell _ _ _ _ h)

theorem set_of (w : World) {b b' : Nat} (h : b ≠ b') (o o' : Nat) (v : Value) : (w.setCell ⟨b', o', none⟩ v).cell? ⟨b, o, none⟩ = w.cell? ⟨b, o, none⟩ :=
  set_at w _ _ v h
theorem alloc_of (w : World) {b : Nat} (h : b < w.heap.size) (o : Nat) (x : Obj) : (w.alloc x).cell? ⟨b, o, none⟩ = w.cell? ⟨b, o, none⟩ :=
  grown_at (World.grownBy_alloc w x none) _ h

theorem shE_bad {k n seg : Int} {ln : Nat} {z : Int} (h : ¬ good k n seg ln) : shE k n seg ln z = 3 := if_neg h
theorem shE_size {k n seg : Int} {ln : Nat} {z : Int} (h : good k n seg ln) (hz : ¬ sized z) : shE k n seg ln z = 4 := by unfold shE; rw [if_pos h, if_neg hz]
theorem shE_many {k n seg : Int} {ln : Nat} {z : Int} (h : good k n seg ln) (hz : sized z) (hs : ¬ segsN (segT k seg) z.toNat ≤ 512) : shE k n seg ln z = 3 := by unfold shE; rw [if_pos h, if_pos hz, if_neg hs]
theorem shS_no {k n seg : Int} {ln : Nat} {z : Int} (h : shE k n seg ln z ≠ 0) : shS k n seg ln z = noSh := if_neg h

set_option maxRecDepth 100000 in
set_option maxHeartbeats 4000000 in
theorem shape_t (k n seg happy z : Int) (a : Option Addr) (ln c : Nat) (w : World) :
    Calls Try.prog 29 #[prV k n seg happy a ln c, .int .i64 z] w fun e w' => e = .returned (.tuple #[(shS k n seg ln z).val, .int .i64 (shE k n seg ln z : Nat)]) ∧ w.grownBy w' none := by
  have hc := fun w => check_n k n seg happy a ln c w
  by_cases hg : good k n seg ln
  · have h0 := chE_good hg
    rw [h0] at hc
    have HC := Lib.hid hc
    clear hc h0
    by_cases hz : sized z
    · have hz0 := hz
      obtain ⟨z1, z2⟩ := hz
      have hg0 := hg
      obtain ⟨h1, h2, h3, h4, h5, h6, h7⟩ := hg
      obtain ⟨K, rfl⟩ : ∃ K : Nat, k = (K : Int) := ⟨k.toNat, by omega⟩
      obtain ⟨N, rfl⟩ : ∃ K : Nat, n = (K : Int) := ⟨n.toNat, by omega⟩
      obtain ⟨SG, rfl⟩ : ∃ K : Nat, seg = (K : Int) := ⟨seg.toNat, by omega⟩
      obtain ⟨Z, rfl⟩ : ∃ K : Nat, z = (K : Int) := ⟨z.toNat, by omega⟩
      have hG : segT (K : Int) (SG : Int) = K * upN SG K := by simp [segT]
      have hlt := upN_lt (a := SG) (b := K) (by omega)
      have hpos := upN_pos (a := SG) (b := K) (by omega) (by omega)
      have hle : K * upN SG K ≤ 65791 := by rw [Nat.mul_comm]; omega
      have hge : 1 ≤ K * upN SG K := Nat.mul_pos (by omega) (by omega)
      have hnum : Nums K (segT (K : Int) (SG : Int)) Z := ⟨by omega, by omega, by rw [hG]; exact hge, by rw [hG]; exact hle, by omega, by omega⟩
      obtain ⟨s, t, q, l, p, L⟩ := nums_laid hnum
      have hL := L.val (n := N)
      have hu := fun w => up_n SG K w (by omega) (by omega) (by omega)
      have hs := fun w => shape_n K N (segT (K : Int) (SG : Int)) Z w hnum
      rw [hL] at hs
      have m0 : (K : Int) * ((upN SG K : Nat) : Int) = ((segT (K : Int) (SG : Int) : Nat) : Int) := by rw [hG]; exact (Int.natCast_mul _ _).symm
      have m1 : IntKind.i64.wrap ((K : Int) * ((upN SG K : Nat) : Int)) = ((segT (K : Int) (SG : Int) : Nat) : Int) := by rw [m0]; exact IntWalk.i64_in _ (by rw [hG]; omega)
      have m2 : wrap64 ((K : Int) * ((upN SG K : Nat) : Int)) = ((segT (K : Int) (SG : Int) : Nat) : Int) := by rw [m0]; exact IntWalk.wrap64_in _ (by rw [hG]; omega)
      refine (shape_g K N SG Z (upN SG K) (segT (K : Int) (SG : Int)) s t q l happy a ln c w (by omega) (by omega) (fun w => HC.out w) hu hs m1 m2).mono ?_
      rintro e w' ⟨rfl, hgr⟩
      refine ⟨?_, hgr⟩
      have hseg : segsN (segT (K : Int) (SG : Int)) ((Z : Int)).toNat = s := L.e1
      by_cases hsg : s ≤ 512
      · have h0 : shE (K : Int) N SG ln Z = 0 := shE_zero.2 ⟨hg0, hz0, by rw [hseg]; exact hsg⟩
        rw [if_pos hsg, h0]
        unfold shS
        rw [if_pos h0]
        simp only [Int.toNat_natCast]
        rw [hL]
        rfl
      · have h0 : shE (K : Int) N SG ln Z = 3 := shE_many hg0 hz0 (by rw [hseg]; exact hsg)
        rw [if_neg hsg, shS_no (by rw [h0]; decide), h0]
        rfl
    · rw [shS_no (by rw [shE_size hg hz]; decide), shE_size hg hz]
      have hz' : z ≤ 32 ∨ 16777216 < z := by unfold sized at hz; omega
      clear hg hz
      unfold prV at *
      rcases hz' with hz' | hz'
      · skip
        show Calls Try.prog 29 #[.agg #[.int .i64 k, .int .i64 n, .int .i64 seg, .int .i64 happy, .slice a ln c], .int .i64 z] w fun e w' => e = .returned (.tuple #[.agg #[.int .i64 0, .int .i64 0, .int .i64 0, .int .i64 0, .int .i64 0, .int .i64 0, .int .i64 0, .int .i64 0], .int .i64 4]) ∧ w.grownBy w' none
        go_enter Try.func29, Try.ntmps29
        go_wp2_with fail
        refine (HC.out _).mono ?_
        rintro e w1 ⟨rfl, g⟩
        have hcell := grown_at g
        have hfroz := grown_fr g
        go_wp2_with fail
        (try simp only [Exit.inBlock, Exit.then])
        refine bodyPost_ret (by simp [*, results, Try.results29, go_sem]; try rfl) rfl ?_
        refine ⟨rfl, ?_⟩
        repeat (refine grownBy_old ?_ (grownBy_setCell _ _ _ _) (by simp))
        exact grownBy_trans (grownBy_al (World.grownBy_alloc _ _ _) _) g
      · by_cases hz2 : z ≤ 32
        · omega
        show Calls Try.prog 29 #[.agg #[.int .i64 k, .int .i64 n, .int .i64 seg, .int .i64 happy, .slice a ln c], .int .i64 z] w fun e w' => e = .returned (.tuple #[.agg #[.int .i64 0, .int .i64 0, .int .i64 0, .int .i64 0, .int .i64 0, .int .i64 0, .int .i64 0, .int .i64 0], .int .i64 4]) ∧ w.grownBy w' none
        go_enter Try.func29, Try.ntmps29
        go_wp2_with fail
        refine (HC.out _).mono ?_
        rintro e w1 ⟨rfl, g⟩
        have hcell := grown_at g
        have hfroz := grown_fr g
        go_wp2_with fail
        (try simp only [Exit.inBlock, Exit.then])
        refine bodyPost_ret (by simp [*, results, Try.results29, go_sem]; try rfl) rfl ?_
        refine ⟨rfl, ?_⟩
        repeat (refine grownBy_old ?_ (grownBy_setCell _ _ _ _) (by simp))
        exact grownBy_trans (grownBy_al (World.grownBy_alloc _ _ _) _) g
  · have h0 := chE_bad hg
    rw [h0] at hc
    have HC := Lib.hid hc
    rw [shS_no (by rw [shE_bad hg]; decide), shE_bad hg]
    clear hc h0 hg
    unfold prV at *
    show Calls Try.prog 29 #[.agg #[.int .i64 k, .int .i64 n, .int .i64 seg, .int .i64 happy, .slice a ln c], .int .i64 z] w fun e w' => e = .returned (.tuple #[.agg #[.int .i64 0, .int .i64 0, .int .i64 0, .int .i64 0, .int .i64 0, .int .i64 0, .int .i64 0, .int .i64 0], .int .i64 3]) ∧ w.grownBy w' none
    go_enter Try.func29, Try.ntmps29
    go_wp2_with fail
    refine (HC.out _).mono ?_
    rintro e w1 ⟨rfl, g⟩
    have hcell := grown_at g
    have hfroz := grown_fr g
    go_wp2_with fail
    (try simp only [Exit.inBlock, Exit.then])
    refine bodyPost_ret (by simp [*, results, Try.results29, go_sem]; try rfl) rfl ?_
    refine ⟨rfl, ?_⟩
    repeat (refine grownBy_old ?_ (grownBy_setCell _ _ _ _) (by simp))
    exact grownBy_trans (grownBy_al (World.grownBy_alloc _ _ _) _) g

end Go.Proofs.Ytfboddnpkaiifaa
/- Guarded operations in a region that draws its order: one value either way. -/
namespace Go.Proofs.Ytfboddnpkaiifaa
open Go.RowKit

/-- the value of what is guarded: none if p | if not p -/
def gvF (p : Bool) (v : Value) : Value := match p with | false => v | true => undef
def gvT (p : Bool) (v : Value) : Value := match p with | true => v | false => undef
@[simp] theorem gvF_false (v : Value) : gvF false v = v := rfl
@[simp] theorem gvT_true (v : Value) : gvT true v = v := rfl

section
variable {P : Program} {ops : Array Oper} {S : World → Prop}
theorem YS.guardF {o : Oper} {v : Value} {a : Act} (p : Bool) (h : p = false → YS P ops S o v a) (h2 : p = true → Region.wanted o (yielded ops a.tmps) = false) : YS P ops S o (gvF p v) a := by
  cases p
  · exact h rfl
  · exact .inr ⟨h2 rfl, rfl⟩
theorem YS.guardT {o : Oper} {v : Value} {a : Act} (p : Bool) (h : p = true → YS P ops S o v a) (h2 : p = false → Region.wanted o (yielded ops a.tmps) = false) : YS P ops S o (gvT p v) a := by
  cases p
  · exact .inr ⟨h2 rfl, rfl⟩
  · exact h rfl
end

end Go.Proofs.Ytfboddnpkaiifaa
/- cut: Again. -/
namespace Go.Proofs.Ytfboddnpkaiifaa
open Go.RowKit

set_option maxRecDepth 100000 in
set_option maxHeartbeats 4000000 in
theorem again_r (k n seg z r q u : Int) (p1 c2 p2 c3 p3 c4 p4 c5 p5 c6 p6 c7 p7 c8 p8 c9 p9 : Bool) (sg t l b : Nat) (R : Value) (w : World)
    (h1 : p1 = decide (n < 1)) (d2 : c2 = decide (255 < n)) (h2 : p2 = (p1 || c2)) (d3 : c3 = decide (k < 1)) (h3 : p3 = (p2 || c3)) (d4 : c4 = decide (n < k)) (h4 : p4 = (p3 || c4))
    (d5 : c5 = decide (seg < 1)) (h5 : p5 = (p4 || c5)) (d6 : c6 = (r != 0)) (h6 : p6 = (p5 || c6)) (d7 : c7 = decide (u < q)) (h7 : p7 = (p6 || c7)) (d8 : c8 = decide (z ≤ 32)) (h8 : p8 = (p7 || c8)) (d9 : c9 = decide (16777216 < z)) (h9 : p9 = (p8 || c9))
    (f6 : p5 = false → k ≠ 0 ∧ seg.tmod k = r) (f7 : p6 = false → k ≠ 0 ∧ IntKind.i64.wrap (seg.tdiv k) = q)
    (f8 : p6 = false → ∀ w, Calls Try.prog 51 #[.int .i64 65536, .int .i64 k] w fun e w' => e = .returned (.int .i64 u) ∧ w = w')
    (fs : p9 = false → ∀ w, Calls Try.prog 55 #[.int .i64 k, .int .i64 n, .int .i64 seg, .int .i64 z] w fun e w' => e = .returned (.agg #[.int .i64 k, .int .i64 n, .int .i64 seg, .int .i64 z, .int .i64 sg, .int .i64 t, .int .i64 b, .int .i64 l]) ∧ w.grownBy w' none)
    (hR1 : p9 = false → sg ≤ 512 → .tuple #[.agg #[.int .i64 k, .int .i64 n, .int .i64 seg, .int .i64 z, .int .i64 sg, .int .i64 t, .int .i64 b, .int .i64 l], .int .i64 0] = R) (hR2 : ¬ (p9 = false ∧ sg ≤ 512) → .tuple #[.agg #[.int .i64 0, .int .i64 0, .int .i64 0, .int .i64 0, .int .i64 0, .int .i64 0, .int .i64 0, .int .i64 0], .int .i64 92] = R) :
    Calls Try.prog 34 #[.int .i64 k, .int .i64 n, .int .i64 seg, .int .i64 z] w fun e w' => e = .returned R ∧ w.grownBy w' none := by
  have F6 := Lib.hid f6
  have F7 := Lib.hid f7
  have F8 := Lib.hid f8
  have FS := Lib.hid fs
  have HR1' := Lib.hid hR1
  have HR2' := Lib.hid hR2
  clear f6 f7 f8 fs hR1 hR2
  replace h1 := Lib.hid h1
  replace d2 := Lib.hid d2
  replace h2 := Lib.hid h2
  replace d3 := Lib.hid d3
  replace h3 := Lib.hid h3
  replace d4 := Lib.hid d4
  replace h4 := Lib.hid h4
  replace d5 := Lib.hid d5
  replace h5 := Lib.hid h5
  replace d6 := Lib.hid d6
  replace h6 := Lib.hid h6
  replace d7 := Lib.hid d7
  replace h7 := Lib.hid h7
  replace d8 := Lib.hid d8
  replace h8 := Lib.hid h8
  replace d9 := Lib.hid d9
  replace h9 := Lib.hid h9
  go_enter Try.func34, Try.ntmps34
  go_upto_region 1 with fail
  refine wp_regionS (fun w' => w' = (w.alloc (.cells #[.int .i64 0, .int .i64 0, .int .i64 0, .int .i64 0, .int .i64 0, .int .i64 0, .int .i64 0, .int .i64 0] 47)).drew) (by kernel_rfl) rfl ?_
  refine wpS_take 0 (v := .int .i64 n) (oi := { dst := some 11, op := Op.move (Operand.tmp 1), type := 3, pos := "cut.go:50", after := #[], guard := none }) rfl (by kernel_rfl) (by kernel_rfl) (by kernel_rfl) (fun _ _ _ h => h) (YS.val (by rfl) (fun _ _ => rfl)) ?_
  simp only [Act.put, List.setIfInBounds_toArray, List.set_cons_zero, List.set_cons_succ]
  refine wpS_take 1 (v := .bool p1) (oi := { dst := some 12, op := Op.binOp BinOp.lss 3 (Operand.tmp 11) (Operand.const (Value.int IntKind.i64 1)) 3, type := 4, pos := "cut.go:50", after := #[{ on := 0, ground := Ground.data }], guard := none }) rfl (by kernel_rfl) (by kernel_rfl) (by kernel_rfl) (fun _ _ _ h => h) (YS.val (by rfl) (fun _ _ => by rw [h1.out]; go_simp)) ?_
  simp only [Act.put, List.setIfInBounds_toArray, List.set_cons_zero, List.set_cons_succ]
  refine wpS_take 2 (v := .bool p1) (oi := { dst := some 13, op := Op.move (Operand.tmp 12), type := 4, pos := "cut.go:50", after := #[{ on := 1, ground := Ground.data }], guard := none }) rfl (by kernel_rfl) (by kernel_rfl) (by kernel_rfl) (fun _ _ _ h => h) (YS.val (by rfl) (fun _ _ => rfl)) ?_
  simp only [Act.put, List.setIfInBounds_toArray, List.set_cons_zero, List.set_cons_succ]
  refine wpS_take 3 (v := gvF p1 (.int .i64 n)) (oi := { dst := some 14, op := Op.move (Operand.tmp 1), type := 3, pos := "cut.go:50", after := #[{ on := 2, ground := Ground.guard }], guard := some (2, false) }) rfl (by kernel_rfl) (by kernel_rfl) (by kernel_rfl) (fun _ _ _ h => h) (YS.guardF p1 (fun hp => by subst hp; exact YS.val (by rfl) (fun _ _ => rfl)) (fun hp => by subst hp; rfl)) ?_
  simp only [Act.put, List.setIfInBounds_toArray, List.set_cons_zero, List.set_cons_succ]
  refine wpS_take 4 (v := gvF p1 (.bool c2)) (oi := { dst := some 15, op := Op.binOp BinOp.gtr 3 (Operand.tmp 14) (Operand.const (Value.int IntKind.i64 255)) 3, type := 4, pos := "cut.go:50", after := #[{ on := 3, ground := Ground.data }, { on := 2, ground := Ground.guard }], guard := some (2, false) }) rfl (by kernel_rfl) (by kernel_rfl) (by kernel_rfl) (fun _ _ _ h => h) (YS.guardF p1 (fun hp => by subst hp; exact YS.val (by rfl) (fun _ _ => by rw [d2.out]; go_simp)) (fun hp => by subst hp; rfl)) ?_
  simp only [Act.put, List.setIfInBounds_toArray, List.set_cons_zero, List.set_cons_succ]
  refine wpS_take 5 (v := .bool p2) (oi := { dst := some 16, op := Op.pick (Operand.tmp 13) (Operand.const (Value.bool true)) (Operand.tmp 15), type := 4, pos := "cut.go:50", after := #[{ on := 2, ground := Ground.data }, { on := 4, ground := Ground.data }], guard := none }) rfl (by kernel_rfl) (by kernel_rfl) (by kernel_rfl) (fun _ _ _ h => h) (by have h := h2.out; subst h; cases p1 <;> exact YS.val (by rfl) (fun _ _ => rfl)) ?_
  simp only [Act.put, List.setIfInBounds_toArray, List.set_cons_zero, List.set_cons_succ]
  refine wpS_take 6 (v := .bool p2) (oi := { dst := some 17, op := Op.move (Operand.tmp 16), type := 4, pos := "cut.go:50", after := #[{ on := 5, ground := Ground.data }, { on := 2, ground := Ground.chain }], guard := none }) rfl (by kernel_rfl) (by kernel_rfl) (by kernel_rfl) (fun _ _ _ h => h) (YS.val (by rfl) (fun _ _ => rfl)) ?_
  simp only [Act.put, List.setIfInBounds_toArray, List.set_cons_zero, List.set_cons_succ]
  refine wpS_take 7 (v := gvF p2 (.int .i64 k)) (oi := { dst := some 18, op := Op.move (Operand.tmp 0), type := 3, pos := "cut.go:50", after := #[{ on := 6, ground := Ground.guard }], guard := some (6, false) }) rfl (by kernel_rfl) (by kernel_rfl) (by kernel_rfl) (fun _ _ _ h => h) (YS.guardF p2 (fun hp => by subst hp; exact YS.val (by rfl) (fun _ _ => rfl)) (fun hp => by subst hp; rfl)) ?_
  simp only [Act.put, List.setIfInBounds_toArray, List.set_cons_zero, List.set_cons_succ]
  refine wpS_take 8 (v := gvF p2 (.bool c3)) (oi := { dst := some 19, op := Op.binOp BinOp.lss 3 (Operand.tmp 18) (Operand.const (Value.int IntKind.i64 1)) 3, type := 4, pos := "cut.go:50", after := #[{ on := 7, ground := Ground.data }, { on := 6, ground := Ground.guard }], guard := some (6, false) }) rfl (by kernel_rfl) (by kernel_rfl) (by kernel_rfl) (fun _ _ _ h => h) (YS.guardF p2 (fun hp => by subst hp; exact YS.val (by rfl) (fun _ _ => by rw [d3.out]; go_simp)) (fun hp => by subst hp; rfl)) ?_
  simp only [Act.put, List.setIfInBounds_toArray, List.set_cons_zero, List.set_cons_succ]
  refine wpS_take 9 (v := .bool p3) (oi := { dst := some 20, op := Op.pick (Operand.tmp 17) (Operand.const (Value.bool true)) (Operand.tmp 19), type := 4, pos := "cut.go:50", after := #[{ on := 6, ground := Ground.data }, { on := 8, ground := Ground.data }], guard := none }) rfl (by kernel_rfl) (by kernel_rfl) (by kernel_rfl) (fun _ _ _ h => h) (by have h := h3.out; subst h; cases p2 <;> exact YS.val (by rfl) (fun _ _ => rfl)) ?_
  simp only [Act.put, List.setIfInBounds_toArray, List.set_cons_zero, List.set_cons_succ]
  refine wpS_take 10 (v := .bool p3) (oi := { dst := some 21, op := Op.move (Operand.tmp 20), type := 4, pos := "cut.go:50", after := #[{ on := 9, ground := Ground.data }, { on := 6, ground := Ground.chain }], guard := none }) rfl (by kernel_rfl) (by kernel_rfl) (by kernel_rfl) (fun _ _ _ h => h) (YS.val (by rfl) (fun _ _ => rfl)) ?_
  simp only [Act.put, List.setIfInBounds_toArray, List.set_cons_zero, List.set_cons_succ]
  refine wpS_take 11 (v := gvF p3 (.int .i64 k)) (oi := { dst := some 22, op := Op.move (Operand.tmp 0), type := 3, pos := "cut.go:50", after := #[{ on := 10, ground := Ground.guard }], guard := some (10, false) }) rfl (by kernel_rfl) (by kernel_rfl) (by kernel_rfl) (fun _ _ _ h => h) (YS.guardF p3 (fun hp => by subst hp; exact YS.val (by rfl) (fun _ _ => rfl)) (fun hp => by subst hp; rfl)) ?_
  simp only [Act.put, List.setIfInBounds_toArray, List.set_cons_zero, List.set_cons_succ]
  refine wpS_take 12 (v := gvF p3 (.int .i64 n)) (oi := { dst := some 23, op := Op.move (Operand.tmp 1), type := 3, pos := "cut.go:50", after := #[{ on := 10, ground := Ground.guard }], guard := some (10, false) }) rfl (by kernel_rfl) (by kernel_rfl) (by kernel_rfl) (fun _ _ _ h => h) (YS.guardF p3 (fun hp => by subst hp; exact YS.val (by rfl) (fun _ _ => rfl)) (fun hp => by subst hp; rfl)) ?_
  simp only [Act.put, List.setIfInBounds_toArray, List.set_cons_zero, List.set_cons_succ]
  refine wpS_take 13 (v := gvF p3 (.bool c4)) (oi := { dst := some 24, op := Op.binOp BinOp.gtr 3 (Operand.tmp 22) (Operand.tmp 23) 3, type := 4, pos := "cut.go:50", after := #[{ on := 11, ground := Ground.data }, { on := 12, ground := Ground.data }, { on := 10, ground := Ground.guard }], guard := some (10, false) }) rfl (by kernel_rfl) (by kernel_rfl) (by kernel_rfl) (fun _ _ _ h => h) (YS.guardF p3 (fun hp => by subst hp; exact YS.val (by rfl) (fun _ _ => by rw [d4.out]; go_simp)) (fun hp => by subst hp; rfl)) ?_
  simp only [Act.put, List.setIfInBounds_toArray, List.set_cons_zero, List.set_cons_succ]
  refine wpS_take 14 (v := .bool p4) (oi := { dst := some 25, op := Op.pick (Operand.tmp 21) (Operand.const (Value.bool true)) (Operand.tmp 24), type := 4, pos := "cut.go:50", after := #[{ on := 10, ground := Ground.data }, { on := 13, ground := Ground.data }], guard := none }) rfl (by kernel_rfl) (by kernel_rfl) (by kernel_rfl) (fun _ _ _ h => h) (by have h := h4.out; subst h; cases p3 <;> exact YS.val (by rfl) (fun _ _ => rfl)) ?_
  simp only [Act.put, List.setIfInBounds_toArray, List.set_cons_zero, List.set_cons_succ]
  refine wpS_take 15 (v := .bool p4) (oi := { dst := some 26, op := Op.move (Operand.tmp 25), type := 4, pos := "cut.go:50", after := #[{ on := 14, ground := Ground.data }, { on := 10, ground := Ground.chain }], guard := none }) rfl (by kernel_rfl) (by kernel_rfl) (by kernel_rfl) (fun _ _ _ h => h) (YS.val (by rfl) (fun _ _ => rfl)) ?_
  simp only [Act.put, List.setIfInBounds_toArray, List.set_cons_zero, List.set_cons_succ]
  refine wpS_take 16 (v := gvF p4 (.int .i64 seg)) (oi := { dst := some 27, op := Op.move (Operand.tmp 2), type := 3, pos := "cut.go:50", after := #[{ on := 15, ground := Ground.guard }], guard := some (15, false) }) rfl (by kernel_rfl) (by kernel_rfl) (by kernel_rfl) (fun _ _ _ h => h) (YS.guardF p4 (fun hp => by subst hp; exact YS.val (by rfl) (fun _ _ => rfl)) (fun hp => by subst hp; rfl)) ?_
  simp only [Act.put, List.setIfInBounds_toArray, List.set_cons_zero, List.set_cons_succ]
  refine wpS_take 17 (v := gvF p4 (.bool c5)) (oi := { dst := some 28, op := Op.binOp BinOp.lss 3 (Operand.tmp 27) (Operand.const (Value.int IntKind.i64 1)) 3, type := 4, pos := "cut.go:50", after := #[{ on := 16, ground := Ground.data }, { on := 15, ground := Ground.guard }], guard := some (15, false) }) rfl (by kernel_rfl) (by kernel_rfl) (by kernel_rfl) (fun _ _ _ h => h) (YS.guardF p4 (fun hp => by subst hp; exact YS.val (by rfl) (fun _ _ => by rw [d5.out]; go_simp)) (fun hp => by subst hp; rfl)) ?_
  simp only [Act.put, List.setIfInBounds_toArray, List.set_cons_zero, List.set_cons_succ]
  refine wpS_take 18 (v := .bool p5) (oi := { dst := some 29, op := Op.pick (Operand.tmp 26) (Operand.const (Value.bool true)) (Operand.tmp 28), type := 4, pos := "cut.go:50", after := #[{ on := 15, ground := Ground.data }, { on := 17, ground := Ground.data }], guard := none }) rfl (by kernel_rfl) (by kernel_rfl) (by kernel_rfl) (fun _ _ _ h => h) (by have h := h5.out; subst h; cases p4 <;> exact YS.val (by rfl) (fun _ _ => rfl)) ?_
  simp only [Act.put, List.setIfInBounds_toArray, List.set_cons_zero, List.set_cons_succ]
  refine wpS_take 19 (v := .bool p5) (oi := { dst := some 30, op := Op.move (Operand.tmp 29), type := 4, pos := "cut.go:50", after := #[{ on := 18, ground := Ground.data }, { on := 15, ground := Ground.chain }], guard := none }) rfl (by kernel_rfl) (by kernel_rfl) (by kernel_rfl) (fun _ _ _ h => h) (YS.val (by rfl) (fun _ _ => rfl)) ?_
  simp only [Act.put, List.setIfInBounds_toArray, List.set_cons_zero, List.set_cons_succ]
  refine wpS_take 20 (v := gvF p5 (.int .i64 seg)) (oi := { dst := some 31, op := Op.move (Operand.tmp 2), type := 3, pos := "cut.go:50", after := #[{ on := 19, ground := Ground.guard }], guard := some (19, false) }) rfl (by kernel_rfl) (by kernel_rfl) (by kernel_rfl) (fun _ _ _ h => h) (YS.guardF p5 (fun hp => by subst hp; exact YS.val (by rfl) (fun _ _ => rfl)) (fun hp => by subst hp; rfl)) ?_
  simp only [Act.put, List.setIfInBounds_toArray, List.set_cons_zero, List.set_cons_succ]
  refine wpS_take 21 (v := gvF p5 (.int .i64 k)) (oi := { dst := some 32, op := Op.move (Operand.tmp 0), type := 3, pos := "cut.go:50", after := #[{ on := 19, ground := Ground.guard }], guard := some (19, false) }) rfl (by kernel_rfl) (by kernel_rfl) (by kernel_rfl) (fun _ _ _ h => h) (YS.guardF p5 (fun hp => by subst hp; exact YS.val (by rfl) (fun _ _ => rfl)) (fun hp => by subst hp; rfl)) ?_
  simp only [Act.put, List.setIfInBounds_toArray, List.set_cons_zero, List.set_cons_succ]
  refine wpS_take 22 (v := gvF p5 (.int .i64 r)) (oi := { dst := some 33, op := Op.binOp BinOp.rem 3 (Operand.tmp 31) (Operand.tmp 32) 3, type := 3, pos := "cut.go:50", after := #[{ on := 20, ground := Ground.data }, { on := 21, ground := Ground.data }, { on := 19, ground := Ground.guard }], guard := some (19, false) }) rfl (by kernel_rfl) (by kernel_rfl) (by kernel_rfl) (fun _ _ _ h => h) (YS.guardF p5 (fun hp => by obtain ⟨f0, f1⟩ := F6.out hp; subst hp; exact YS.val (by rfl) (fun _ _ => by go_simp)) (fun hp => by subst hp; rfl)) ?_
  simp only [Act.put, List.setIfInBounds_toArray, List.set_cons_zero, List.set_cons_succ]
  refine wpS_take 23 (v := gvF p5 (.bool c6)) (oi := { dst := some 34, op := Op.binOp BinOp.neq 3 (Operand.tmp 33) (Operand.const (Value.int IntKind.i64 0)) 3, type := 4, pos := "cut.go:50", after := #[{ on := 22, ground := Ground.data }, { on := 19, ground := Ground.guard }], guard := some (19, false) }) rfl (by kernel_rfl) (by kernel_rfl) (by kernel_rfl) (fun _ _ _ h => h) (YS.guardF p5 (fun hp => by subst hp; exact YS.val (by rfl) (fun _ _ => by rw [d6.out]; go_simp)) (fun hp => by subst hp; rfl)) ?_
  simp only [Act.put, List.setIfInBounds_toArray, List.set_cons_zero, List.set_cons_succ]
  refine wpS_take 24 (v := .bool p6) (oi := { dst := some 35, op := Op.pick (Operand.tmp 30) (Operand.const (Value.bool true)) (Operand.tmp 34), type := 4, pos := "cut.go:50", after := #[{ on := 19, ground := Ground.data }, { on := 23, ground := Ground.data }], guard := none }) rfl (by kernel_rfl) (by kernel_rfl) (by kernel_rfl) (fun _ _ _ h => h) (by have h := h6.out; subst h; cases p5 <;> exact YS.val (by rfl) (fun _ _ => rfl)) ?_
  simp only [Act.put, List.setIfInBounds_toArray, List.set_cons_zero, List.set_cons_succ]
  refine wpS_take 25 (v := .bool p6) (oi := { dst := some 36, op := Op.move (Operand.tmp 35), type := 4, pos := "cut.go:50", after := #[{ on := 24, ground := Ground.data }, { on := 19, ground := Ground.chain }], guard := none }) rfl (by kernel_rfl) (by kernel_rfl) (by kernel_rfl) (fun _ _ _ h => h) (YS.val (by rfl) (fun _ _ => rfl)) ?_
  simp only [Act.put, List.setIfInBounds_toArray, List.set_cons_zero, List.set_cons_succ]
  refine wpS_take 26 (v := gvF p6 (.int .i64 seg)) (oi := { dst := some 37, op := Op.move (Operand.tmp 2), type := 3, pos := "cut.go:50", after := #[{ on := 25, ground := Ground.guard }], guard := some (25, false) }) rfl (by kernel_rfl) (by kernel_rfl) (by kernel_rfl) (fun _ _ _ h => h) (YS.guardF p6 (fun hp => by subst hp; exact YS.val (by rfl) (fun _ _ => rfl)) (fun hp => by subst hp; rfl)) ?_
  simp only [Act.put, List.setIfInBounds_toArray, List.set_cons_zero, List.set_cons_succ]
  refine wpS_take 27 (v := gvF p6 (.int .i64 k)) (oi := { dst := some 38, op := Op.move (Operand.tmp 0), type := 3, pos := "cut.go:50", after := #[{ on := 25, ground := Ground.guard }], guard := some (25, false) }) rfl (by kernel_rfl) (by kernel_rfl) (by kernel_rfl) (fun _ _ _ h => h) (YS.guardF p6 (fun hp => by subst hp; exact YS.val (by rfl) (fun _ _ => rfl)) (fun hp => by subst hp; rfl)) ?_
  simp only [Act.put, List.setIfInBounds_toArray, List.set_cons_zero, List.set_cons_succ]
  refine wpS_take 28 (v := gvF p6 (.int .i64 q)) (oi := { dst := some 39, op := Op.binOp BinOp.quo 3 (Operand.tmp 37) (Operand.tmp 38) 3, type := 3, pos := "cut.go:50", after := #[{ on := 26, ground := Ground.data }, { on := 27, ground := Ground.data }, { on := 25, ground := Ground.guard }], guard := some (25, false) }) rfl (by kernel_rfl) (by kernel_rfl) (by kernel_rfl) (fun _ _ _ h => h) (YS.guardF p6 (fun hp => by obtain ⟨f0, f1⟩ := F7.out hp; subst hp; exact YS.val (by rfl) (fun _ _ => by go_simp)) (fun hp => by subst hp; rfl)) ?_
  simp only [Act.put, List.setIfInBounds_toArray, List.set_cons_zero, List.set_cons_succ]
  refine wpS_take 29 (v := gvF p6 (.int .i64 k)) (oi := { dst := some 40, op := Op.move (Operand.tmp 0), type := 3, pos := "cut.go:50", after := #[{ on := 25, ground := Ground.guard }], guard := some (25, false) }) rfl (by kernel_rfl) (by kernel_rfl) (by kernel_rfl) (fun _ _ _ h => h) (YS.guardF p6 (fun hp => by subst hp; exact YS.val (by rfl) (fun _ _ => rfl)) (fun hp => by subst hp; rfl)) ?_
  simp only [Act.put, List.setIfInBounds_toArray, List.set_cons_zero, List.set_cons_succ]
  refine wpS_take 30 (v := gvF p6 (.int .i64 u)) (oi := { dst := some 41, op := Op.call { callee := Callee.value (Operand.func 51), args := #[Operand.const (Value.int IntKind.i64 65536), Operand.tmp 40], argTypes := #[3, 3] }, type := 3, pos := "cut.go:50", after := #[{ on := 29, ground := Ground.data }, { on := 25, ground := Ground.chain }, { on := 25, ground := Ground.guard }], guard := some (25, false) }) rfl (by kernel_rfl) (by kernel_rfl) (by kernel_rfl) (fun _ _ _ h => h) (YS.guardF p6 (fun hp => by have f := F8.out hp; subst hp; exact YS.same (f := 51) (args := #[.int .i64 65536, .int .i64 k]) (by rfl) (fun w => by go_simp) f) (fun hp => by subst hp; rfl)) ?_
  simp only [Act.put, List.setIfInBounds_toArray, List.set_cons_zero, List.set_cons_succ]
  refine wpS_take 31 (v := gvF p6 (.bool c7)) (oi := { dst := some 42, op := Op.binOp BinOp.gtr 3 (Operand.tmp 39) (Operand.tmp 41) 3, type := 4, pos := "cut.go:50", after := #[{ on := 28, ground := Ground.data }, { on := 30, ground := Ground.data }, { on := 25, ground := Ground.guard }], guard := some (25, false) }) rfl (by kernel_rfl) (by kernel_rfl) (by kernel_rfl) (fun _ _ _ h => h) (YS.guardF p6 (fun hp => by subst hp; exact YS.val (by rfl) (fun _ _ => by rw [d7.out]; go_simp)) (fun hp => by subst hp; rfl)) ?_
  simp only [Act.put, List.setIfInBounds_toArray, List.set_cons_zero, List.set_cons_succ]
  refine wpS_take 32 (v := .bool p7) (oi := { dst := some 43, op := Op.pick (Operand.tmp 36) (Operand.const (Value.bool true)) (Operand.tmp 42), type := 4, pos := "cut.go:50", after := #[{ on := 25, ground := Ground.data }, { on := 31, ground := Ground.data }], guard := none }) rfl (by kernel_rfl) (by kernel_rfl) (by kernel_rfl) (fun _ _ _ h => h) (by have h := h7.out; subst h; cases p6 <;> exact YS.val (by rfl) (fun _ _ => rfl)) ?_
  simp only [Act.put, List.setIfInBounds_toArray, List.set_cons_zero, List.set_cons_succ]
  refine wpS_take 33 (v := .bool p7) (oi := { dst := some 44, op := Op.move (Operand.tmp 43), type := 4, pos := "cut.go:50", after := #[{ on := 32, ground := Ground.data }, { on := 30, ground := Ground.chain }], guard := none }) rfl (by kernel_rfl) (by kernel_rfl) (by kernel_rfl) (fun _ _ _ h => h) (YS.val (by rfl) (fun _ _ => rfl)) ?_
  simp only [Act.put, List.setIfInBounds_toArray, List.set_cons_zero, List.set_cons_succ]
  refine wpS_take 34 (v := gvF p7 (.int .i64 z)) (oi := { dst := some 45, op := Op.move (Operand.tmp 3), type := 3, pos := "cut.go:50", after := #[{ on := 33, ground := Ground.guard }], guard := some (33, false) }) rfl (by kernel_rfl) (by kernel_rfl) (by kernel_rfl) (fun _ _ _ h => h) (YS.guardF p7 (fun hp => by subst hp; exact YS.val (by rfl) (fun _ _ => rfl)) (fun hp => by subst hp; rfl)) ?_
  simp only [Act.put, List.setIfInBounds_toArray, List.set_cons_zero, List.set_cons_succ]
  refine wpS_take 35 (v := gvF p7 (.bool c8)) (oi := { dst := some 46, op := Op.binOp BinOp.leq 3 (Operand.tmp 45) (Operand.const (Value.int IntKind.i64 32)) 3, type := 4, pos := "cut.go:50", after := #[{ on := 34, ground := Ground.data }, { on := 33, ground := Ground.guard }], guard := some (33, false) }) rfl (by kernel_rfl) (by kernel_rfl) (by kernel_rfl) (fun _ _ _ h => h) (YS.guardF p7 (fun hp => by subst hp; exact YS.val (by rfl) (fun _ _ => by rw [d8.out]; go_simp)) (fun hp => by subst hp; rfl)) ?_
  simp only [Act.put, List.setIfInBounds_toArray, List.set_cons_zero, List.set_cons_succ]
  refine wpS_take 36 (v := .bool p8) (oi := { dst := some 47, op := Op.pick (Operand.tmp 44) (Operand.const (Value.bool true)) (Operand.tmp 46), type := 4, pos := "cut.go:50", after := #[{ on := 33, ground := Ground.data }, { on := 35, ground := Ground.data }], guard := none }) rfl (by kernel_rfl) (by kernel_rfl) (by kernel_rfl) (fun _ _ _ h => h) (by have h := h8.out; subst h; cases p7 <;> exact YS.val (by rfl) (fun _ _ => rfl)) ?_
  simp only [Act.put, List.setIfInBounds_toArray, List.set_cons_zero, List.set_cons_succ]
  refine wpS_take 37 (v := .bool p8) (oi := { dst := some 48, op := Op.move (Operand.tmp 47), type := 4, pos := "cut.go:50", after := #[{ on := 36, ground := Ground.data }, { on := 33, ground := Ground.chain }], guard := none }) rfl (by kernel_rfl) (by kernel_rfl) (by kernel_rfl) (fun _ _ _ h => h) (YS.val (by rfl) (fun _ _ => rfl)) ?_
  simp only [Act.put, List.setIfInBounds_toArray, List.set_cons_zero, List.set_cons_succ]
  refine wpS_take 38 (v := gvF p8 (.int .i64 z)) (oi := { dst := some 49, op := Op.move (Operand.tmp 3), type := 3, pos := "cut.go:50", after := #[{ on := 37, ground := Ground.guard }], guard := some (37, false) }) rfl (by kernel_rfl) (by kernel_rfl) (by kernel_rfl) (fun _ _ _ h => h) (YS.guardF p8 (fun hp => by subst hp; exact YS.val (by rfl) (fun _ _ => rfl)) (fun hp => by subst hp; rfl)) ?_
  simp only [Act.put, List.setIfInBounds_toArray, List.set_cons_zero, List.set_cons_succ]
  refine wpS_take 39 (v := gvF p8 (.bool c9)) (oi := { dst := some 50, op := Op.binOp BinOp.gtr 3 (Operand.tmp 49) (Operand.const (Value.int IntKind.i64 16777216)) 3, type := 4, pos := "cut.go:50", after := #[{ on := 38, ground := Ground.data }, { on := 37, ground := Ground.guard }], guard := some (37, false) }) rfl (by kernel_rfl) (by kernel_rfl) (by kernel_rfl) (fun _ _ _ h => h) (YS.guardF p8 (fun hp => by subst hp; exact YS.val (by rfl) (fun _ _ => by rw [d9.out]; go_simp)) (fun hp => by subst hp; rfl)) ?_
  simp only [Act.put, List.setIfInBounds_toArray, List.set_cons_zero, List.set_cons_succ]
  refine wpS_take 40 (v := .bool p9) (oi := { dst := some 51, op := Op.pick (Operand.tmp 48) (Operand.const (Value.bool true)) (Operand.tmp 50), type := 4, pos := "cut.go:50", after := #[{ on := 37, ground := Ground.data }, { on := 39, ground := Ground.data }], guard := none }) rfl (by kernel_rfl) (by kernel_rfl) (by kernel_rfl) (fun _ _ _ h => h) (by have h := h9.out; subst h; cases p8 <;> exact YS.val (by rfl) (fun _ _ => rfl)) ?_
  simp only [Act.put, List.setIfInBounds_toArray, List.set_cons_zero, List.set_cons_succ]
  refine wpS_done (by kernel_rfl) (fun w1 hw1 => ?_) _
  subst hw1
  clear h1 d2 h2 d3 h3 d4 h4 d5 h5 d6 h6 d7 h7 d8 h8 d9 h9
  cases p9
  · have FS' := Lib.hid (FS.out rfl)
    have HRA := Lib.hid (HR1'.out rfl)
    have HRB := Lib.hid (fun h : ¬ sg ≤ 512 => HR2'.out (fun x => h x.2))
    clear HR1' HR2'
    clear FS F6 F7 F8
    have hr0 : (((w.alloc (.cells #[.int .i64 0, .int .i64 0, .int .i64 0, .int .i64 0, .int .i64 0, .int .i64 0, .int .i64 0, .int .i64 0] 47)).drew).heap[w.heap.size]? = some (.cells #[.int .i64 0, .int .i64 0, .int .i64 0, .int .i64 0, .int .i64 0, .int .i64 0, .int .i64 0, .int .i64 0] 47 (0, 0))) := heap_alloc_new _ _
    have hg0 : w.grownBy ((w.alloc (.cells #[.int .i64 0, .int .i64 0, .int .i64 0, .int .i64 0, .int .i64 0, .int .i64 0, .int .i64 0, .int .i64 0] 47)).drew) none := grownBy_d1 (World.grownBy_alloc _ _ _)
    have HR0 := Lib.hid hr0
    have HG0 := Lib.hid hg0
    obtain ⟨W0, hW0⟩ : ∃ W, W = (w.alloc (.cells #[.int .i64 0, .int .i64 0, .int .i64 0, .int .i64 0, .int .i64 0, .int .i64 0, .int .i64 0, .int .i64 0] 47)).drew := ⟨_, rfl⟩
    rw [← hW0] at HR0 HG0 ⊢
    clear hr0 hg0 hW0
    go_wp2_with fail
    refine (FS'.out _).mono ?_
    rintro e w2 ⟨rfl, g⟩
    have HR1 := Lib.hid (heap_grown HR0.out g)
    have HG1 := Lib.hid (grownBy_trans HG0.out g)
    have hl2 : w.heap.size < w2.heap.size := (Array.getElem?_eq_some_iff.1 HR1.out).1
    clear g
    have HN := Lib.hid (heap_alloc_new w2 (.cells #[.int .i64 0, .int .i64 0, .int .i64 0, .int .i64 0, .int .i64 0, .int .i64 0, .int .i64 0, .int .i64 0] 47))
    have HR2 := Lib.hid (heap_grown HR1.out (World.grownBy_alloc w2 (.cells #[.int .i64 0, .int .i64 0, .int .i64 0, .int .i64 0, .int .i64 0, .int .i64 0, .int .i64 0, .int .i64 0] 47) none))
    have HG2 := Lib.hid (grownBy_trans HG1.out (World.grownBy_alloc w2 (.cells #[.int .i64 0, .int .i64 0, .int .i64 0, .int .i64 0, .int .i64 0, .int .i64 0, .int .i64 0, .int .i64 0] 47) none))
    obtain ⟨W, hW⟩ : ∃ W, W = (w2.alloc (.cells #[.int .i64 0, .int .i64 0, .int .i64 0, .int .i64 0, .int .i64 0, .int .i64 0, .int .i64 0, .int .i64 0] 47)).setRow w2.heap.size #[.int .i64 k, .int .i64 n, .int .i64 seg, .int .i64 z, .int .i64 sg, .int .i64 t, .int .i64 b, .int .i64 l] := ⟨_, rfl⟩
    have hg1 := grownBy_old HG2.out (grownBy_setRow _ w2.heap.size #[.int .i64 k, .int .i64 n, .int .i64 seg, .int .i64 z, .int .i64 sg, .int .i64 t, .int .i64 b, .int .i64 l]) (by omega)
    have hn1 : ((w2.alloc (.cells #[.int .i64 0, .int .i64 0, .int .i64 0, .int .i64 0, .int .i64 0, .int .i64 0, .int .i64 0, .int .i64 0] 47)).setRow w2.heap.size #[.int .i64 k, .int .i64 n, .int .i64 seg, .int .i64 z, .int .i64 sg, .int .i64 t, .int .i64 b, .int .i64 l]).heap[w2.heap.size]? = some (.cells #[.int .i64 k, .int .i64 n, .int .i64 seg, .int .i64 z, .int .i64 sg, .int .i64 t, .int .i64 b, .int .i64 l] 47 (0, 0)) := setRow_heap _ _ _ _ _ _ HN.out
    have hr1 : ((w2.alloc (.cells #[.int .i64 0, .int .i64 0, .int .i64 0, .int .i64 0, .int .i64 0, .int .i64 0, .int .i64 0, .int .i64 0] 47)).setRow w2.heap.size #[.int .i64 k, .int .i64 n, .int .i64 seg, .int .i64 z, .int .i64 sg, .int .i64 t, .int .i64 b, .int .i64 l]).heap[w.heap.size]? = some (.cells #[.int .i64 0, .int .i64 0, .int .i64 0, .int .i64 0, .int .i64 0, .int .i64 0, .int .i64 0, .int .i64 0] 47 (0, 0)) := (setRow_other _ w2.heap.size w.heap.size _ (by omega)).trans HR2.out
    rw [← hW] at hg1 hn1 hr1
    have c4 : W.cell? ⟨w2.heap.size, 4, none⟩ = some (.int .i64 sg) := by simp only [World.cell?, hn1]; rfl
    have HGG := Lib.hid hg1
    have HN1 := Lib.hid hn1
    have HRR := Lib.hid hr1
    have HW := Lib.hid hW
    clear hg1 hn1 hr1 hW
    by_cases hsg : sg ≤ 512
    · have hsi : (sg : Int) ≤ 512 := by omega
      have hni : ¬ (512 : Int) < (sg : Int) := by omega
      go_wp2_with (first | (refine wpList_store_row rfl 47 _ _ rfl w2.heap.size #[.int .i64 k, .int .i64 n, .int .i64 seg, .int .i64 z, .int .i64 sg, .int .i64 t, .int .i64 b, .int .i64 l] rfl rfl 47 _ HN.out size_shape rfl (by simp [Value.oneCell']) ?_; rw [← HW.out]) | (refine wpList_load_row rfl 47 _ rfl w2.heap.size rfl 47 #[.int .i64 k, .int .i64 n, .int .i64 seg, .int .i64 z, .int .i64 sg, .int .i64 t, .int .i64 b, .int .i64 l] (0, 0) _ HN1.out Try.underlying47 rfl size_shape ?_) | (refine wpList_store_row rfl 47 _ _ rfl (w.heap.size) #[.int .i64 k, .int .i64 n, .int .i64 seg, .int .i64 z, .int .i64 sg, .int .i64 t, .int .i64 b, .int .i64 l] rfl rfl 47 _ HRR.out size_shape rfl (by simp [Value.oneCell']) ?_))
      refine bodyPost_ret (v := .tuple #[.agg #[.int .i64 k, .int .i64 n, .int .i64 seg, .int .i64 z, .int .i64 sg, .int .i64 t, .int .i64 b, .int .i64 l], .int .i64 0]) (results_ct rfl _ _ (w.heap.size) 47 #[.int .i64 k, .int .i64 n, .int .i64 seg, .int .i64 z, .int .i64 sg, .int .i64 t, .int .i64 b, .int .i64 l] (0, 0) _ _ rfl rfl (setRow_heap _ _ _ _ _ _ HRR.out) Try.underlying47 rfl size_shape) rfl ⟨by rw [HRA.out hsg], ?_⟩
      exact grownBy_old HGG.out (grownBy_setRow _ _ _) (by omega)
    · have hsi : ¬ (sg : Int) ≤ 512 := by omega
      have hni : (512 : Int) < (sg : Int) := by omega
      go_wp2_with (first | (refine wpList_store_row rfl 47 _ _ rfl w2.heap.size #[.int .i64 k, .int .i64 n, .int .i64 seg, .int .i64 z, .int .i64 sg, .int .i64 t, .int .i64 b, .int .i64 l] rfl rfl 47 _ HN.out size_shape rfl (by simp [Value.oneCell']) ?_; rw [← HW.out]) | (refine wpList_store_row rfl 47 _ _ rfl (w.heap.size) #[.int .i64 0, .int .i64 0, .int .i64 0, .int .i64 0, .int .i64 0, .int .i64 0, .int .i64 0, .int .i64 0] rfl rfl 47 _ HRR.out size_shape rfl (by simp [Value.oneCell']) ?_))
      refine bodyPost_ret (v := .tuple #[.agg #[.int .i64 0, .int .i64 0, .int .i64 0, .int .i64 0, .int .i64 0, .int .i64 0, .int .i64 0, .int .i64 0], .int .i64 92]) (results_ct rfl _ _ (w.heap.size) 47 #[.int .i64 0, .int .i64 0, .int .i64 0, .int .i64 0, .int .i64 0, .int .i64 0, .int .i64 0, .int .i64 0] (0, 0) _ _ rfl rfl (setRow_heap _ _ _ _ _ _ HRR.out) Try.underlying47 rfl size_shape) rfl ⟨by rw [HRB.out hsg], ?_⟩
      exact grownBy_old HGG.out (grownBy_setRow _ _ _) (by omega)
  · have HRB := Lib.hid (HR2'.out (fun x => absurd x.1 (by decide)))
    clear FS F6 F7 F8 HR1' HR2'
    have hr0 : (((w.alloc (.cells #[.int .i64 0, .int .i64 0, .int .i64 0, .int .i64 0, .int .i64 0, .int .i64 0, .int .i64 0, .int .i64 0] 47)).drew).heap[w.heap.size]? = some (.cells #[.int .i64 0, .int .i64 0, .int .i64 0, .int .i64 0, .int .i64 0, .int .i64 0, .int .i64 0, .int .i64 0] 47 (0, 0))) := heap_alloc_new _ _
    have hg0 : w.grownBy ((w.alloc (.cells #[.int .i64 0, .int .i64 0, .int .i64 0, .int .i64 0, .int .i64 0, .int .i64 0, .int .i64 0, .int .i64 0] 47)).drew) none := grownBy_d1 (World.grownBy_alloc _ _ _)
    have HRR := Lib.hid hr0
    have HGG := Lib.hid hg0
    obtain ⟨W0, hW0⟩ : ∃ W, W = (w.alloc (.cells #[.int .i64 0, .int .i64 0, .int .i64 0, .int .i64 0, .int .i64 0, .int .i64 0, .int .i64 0, .int .i64 0] 47)).drew := ⟨_, rfl⟩
    rw [← hW0] at HRR HGG ⊢
    clear hr0 hg0 hW0
    go_wp2_with (refine wpList_store_row rfl 47 _ _ rfl (w.heap.size) #[.int .i64 0, .int .i64 0, .int .i64 0, .int .i64 0, .int .i64 0, .int .i64 0, .int .i64 0, .int .i64 0] rfl rfl 47 _ HRR.out size_shape rfl (by simp [Value.oneCell']) ?_)
    refine bodyPost_ret (v := .tuple #[.agg #[.int .i64 0, .int .i64 0, .int .i64 0, .int .i64 0, .int .i64 0, .int .i64 0, .int .i64 0, .int .i64 0], .int .i64 92]) (results_ct rfl _ _ (w.heap.size) 47 #[.int .i64 0, .int .i64 0, .int .i64 0, .int .i64 0, .int .i64 0, .int .i64 0, .int .i64 0, .int .i64 0] (0, 0) _ _ rfl rfl (setRow_heap _ _ _ _ _ _ HRR.out) Try.underlying47 rfl size_shape) rfl ⟨by rw [HRB.out], ?_⟩
    exact grownBy_old HGG.out (grownBy_setRow _ _ _) (by omega)

theorem four_iff (k n seg z : Int) : four k n seg z ↔ ¬ n < 1 ∧ ¬ 255 < n ∧ ¬ k < 1 ∧ ¬ n < k ∧ ¬ seg < 1 ∧ seg.tmod k = 0 ∧ ¬ ((upN 65536 k.toNat : Nat) : Int) < seg.tdiv k ∧ ¬ z ≤ 32 ∧ ¬ 16777216 < z := by
  unfold four sized
  by_cases h : 1 ≤ k ∧ 1 ≤ seg
  · obtain ⟨K, rfl⟩ : ∃ K : Nat, k = (K : Int) := ⟨k.toNat, by omega⟩
    obtain ⟨G, rfl⟩ : ∃ G : Nat, seg = (G : Int) := ⟨seg.toNat, by omega⟩
    simp only [Int.toNat_natCast]
    rw [show (G : Int).tmod (K : Int) = ((G % K : Nat) : Int) from rfl, show (G : Int).tdiv (K : Int) = ((G / K : Nat) : Int) from rfl]
    generalize G % K = r
    generalize G / K = q
    generalize upN 65536 K = u
    omega
  · constructor
    · intro h'; omega
    · intro h'; omega

theorem again_n (k n seg z : Int) (hseg : seg ≤ 9223372036854775807) (w : World) :
    Calls Try.prog 34 #[.int .i64 k, .int .i64 n, .int .i64 seg, .int .i64 z] w fun e w' => e = .returned (.tuple #[(agS k n seg z).val, .int .i64 (agE k n seg z : Nat)]) ∧ w.grownBy w' none := by
  refine again_r k n seg z (seg.tmod k) (seg.tdiv k) ((upN 65536 k.toNat : Nat) : Int) _ _ _ _ _ _ _ _ _ _ _ _ _ _ _ _ _ (segsN seg.toNat z.toNat) (tailN seg.toNat z.toNat) (upN (tailN seg.toNat z.toNat) k.toNat) (seg.toNat / k.toNat) _ w rfl rfl rfl rfl rfl rfl rfl rfl rfl rfl rfl rfl rfl rfl rfl rfl rfl (fun h => ?_) (fun h => ?_) (fun h w => ?_) (fun h w => ?_) (fun h hs => ?_) (fun h => ?_)
  · simp only [Bool.or_eq_false_iff, decide_eq_false_iff_not] at h
    refine ⟨by omega, rfl⟩
  · simp only [Bool.or_eq_false_iff, decide_eq_false_iff_not] at h
    obtain ⟨⟨⟨⟨⟨h1, h2⟩, h3⟩, h4⟩, h5⟩, h6⟩ := h
    refine ⟨by omega, ?_⟩
    obtain ⟨K, rfl⟩ : ∃ K : Nat, k = (K : Int) := ⟨k.toNat, by omega⟩
    obtain ⟨G, rfl⟩ : ∃ G : Nat, seg = (G : Int) := ⟨seg.toNat, by omega⟩
    rw [show (G : Int).tdiv (K : Int) = ((G / K : Nat) : Int) from rfl]
    have := Nat.div_le_self G K
    generalize G / K = q at this ⊢
    exact IntWalk.i64_in _ (by omega)
  · simp only [Bool.or_eq_false_iff, decide_eq_false_iff_not] at h
    obtain ⟨⟨⟨⟨⟨h1, h2⟩, h3⟩, h4⟩, h5⟩, h6⟩ := h
    obtain ⟨K, rfl⟩ : ∃ K : Nat, k = (K : Int) := ⟨k.toNat, by omega⟩
    exact up_n 65536 K w (by omega) (by omega) (by omega)
  · simp only [Bool.or_eq_false_iff, decide_eq_false_iff_not, bne_eq_false_iff_eq] at h
    obtain ⟨⟨⟨⟨⟨⟨⟨⟨h1, h2⟩, h3⟩, h4⟩, h5⟩, h6⟩, h7⟩, h8⟩, h9⟩ := h
    have hf : four k n seg z := (four_iff k n seg z).2 ⟨h1, h2, h3, h4, h5, h6, h7, h8, h9⟩
    obtain ⟨K, rfl⟩ : ∃ K : Nat, k = (K : Int) := ⟨k.toNat, by omega⟩
    obtain ⟨N, rfl⟩ : ∃ K : Nat, n = (K : Int) := ⟨n.toNat, by omega⟩
    obtain ⟨G, rfl⟩ : ∃ G : Nat, seg = (G : Int) := ⟨seg.toNat, by omega⟩
    obtain ⟨Z, rfl⟩ : ∃ G : Nat, z = (G : Int) := ⟨z.toNat, by omega⟩
    obtain ⟨_, _, _, _, _, g6, g7, _⟩ := hf
    simp only [Int.toNat_natCast] at g6 g7 ⊢
    have hd := Nat.div_add_mod G K
    rw [g6, Nat.add_zero] at hd
    have hu := upN_lt (a := 65536) (b := K) (by omega)
    have hm : K * (G / K) ≤ K * upN 65536 K := Nat.mul_le_mul_left _ g7
    rw [Nat.mul_comm K (upN _ _)] at hm
    exact shape_n K N G Z w ⟨by omega, by omega, by omega, by omega, by omega, by omega⟩
  · simp only [Bool.or_eq_false_iff, decide_eq_false_iff_not, bne_eq_false_iff_eq] at h
    obtain ⟨⟨⟨⟨⟨⟨⟨⟨h1, h2⟩, h3⟩, h4⟩, h5⟩, h6⟩, h7⟩, h8⟩, h9⟩ := h
    have hf : four k n seg z := (four_iff k n seg z).2 ⟨h1, h2, h3, h4, h5, h6, h7, h8, h9⟩
    have h0 : agE k n seg z = 0 := agE_zero.2 ⟨hf, hs⟩
    unfold agS
    rw [h0, if_pos rfl]
    have e1 : ((k.toNat : Nat) : Int) = k := by omega
    have e2 : ((n.toNat : Nat) : Int) = n := by omega
    have e3 : ((seg.toNat : Nat) : Int) = seg := by omega
    have e4 : ((z.toNat : Nat) : Int) = z := by omega
    unfold Sh.val laidN
    simp only [e1, e2, e3, e4]
    rfl
  · have h0 : agE k n seg z ≠ 0 := fun h0 => h (by
      obtain ⟨hf, hs⟩ := agE_zero.1 h0
      obtain ⟨h1, h2, h3, h4, h5, h6, h7, h8, h9⟩ := (four_iff k n seg z).1 hf
      refine ⟨?_, hs⟩
      simp only [Bool.or_eq_false_iff, decide_eq_false_iff_not, bne_eq_false_iff_eq]
      exact ⟨⟨⟨⟨⟨⟨⟨⟨h1, h2⟩, h3⟩, h4⟩, h5⟩, h6⟩, h7⟩, h8⟩, h9⟩)
    unfold agS
    rw [if_neg h0, agE_not h0]
    rfl

end Go.Proofs.Ytfboddnpkaiifaa
/- Arrays of bytes (and arrays of such) are compared cell by cell. No walk. -/
namespace Go.Proofs.Ytfboddnpkaiifaa
open Go.RowKit

def litB (x : UInt8) : Lit := .int .u8 (x.toNat : Int)
theorem litB_inj {a b : List UInt8} : a.map litB = b.map litB ↔ a = b := by
  constructor
  · intro h
    induction a generalizing b with
    | nil => cases b <;> simp_all
    | cons x a ih =>
      cases b with
      | nil => simp at h
      | cons y b =>
        simp only [List.map_cons, List.cons.injEq] at h
        obtain ⟨h1, h2⟩ := h
        unfold litB at h1
        injection h1 with _ h1
        have hxy : x = y := UInt8.toNat_inj.1 (by omega)
        rw [ih h2, hxy]
  · rintro rfl; rfl

theorem mapM_some {α β : Type} (f : α → Option β) (g : α → β) : ∀ (xs : List α), (∀ x ∈ xs, f x = some (g x)) → xs.mapM f = some (xs.map g)
  | [], _ => rfl
  | x :: xs, h => by
    rw [List.mapM_cons, h x (by simp), mapM_some f g xs (fun y hy => h y (by simp [hy]))]
    rfl

theorem flatten_parts {α : Type} (k : Nat) : ∀ (n : Nat) (L : List α), L.length = n * k → ((List.range n).map fun i => (L.drop (i * k)).take k).flatten = L
  | 0, L, h => by simp at h; simp [h]
  | n + 1, L, h => by
    rw [List.range_succ_eq_map, List.map_cons, List.flatten_cons, List.map_map]
    have e : ((List.range n).map ((fun i => (L.drop (i * k)).take k) ∘ Nat.succ)) = (List.range n).map fun i => ((L.drop k).drop (i * k)).take k := by
      apply List.map_congr_left
      intro i _
      simp only [Function.comp, List.drop_drop, Nat.succ_eq_add_one, Nat.add_mul, Nat.one_mul]
      rw [Nat.add_comm]
    rw [e, flatten_parts k n (L.drop k) (by rw [List.length_drop, h, Nat.add_mul]; omega)]
    simp

section
variable {P : Program}
theorem lits_arr {t e : TypeId} {n k D : Nat} (hu : P.underlying t = some (.array n e)) (hc : P.cellsOf t = n * k) (he : P.cellsOf e = k) (l : List UInt8) (hl : l.length = n * k)
    (h : ∀ m : List UInt8, m.length = k → P.keyLits D e (m.map bval) = some (m.map litB)) : P.keyLits (D + 1) t (l.map bval) = some (l.map litB) := by
  unfold Program.keyLits
  rw [hu]
  show (if (l.map bval).length = P.cellsOf t then Option.map List.flatten (List.mapM (fun i => P.keyLits D e (List.take (P.cellsOf e) (List.drop (i * P.cellsOf e) (l.map bval)))) (List.range n)) else none) = _
  rw [he, hc]
  simp only [List.length_map, hl, if_true]
  rw [mapM_some _ (fun i => ((l.map litB).drop (i * k)).take k)]
  · rw [Option.map_some, flatten_parts k n _ (by rw [List.length_map, hl])]
  · intro i hi
    have hi' : i < n := by simpa using hi
    rw [← List.map_drop, ← List.map_take, ← List.map_drop, ← List.map_take]
    refine h _ ?_
    rw [List.length_take, List.length_drop, hl]
    have : (i + 1) * k ≤ n * k := Nat.mul_le_mul_right k hi'
    rw [Nat.add_mul] at this
    omega

theorem lits_byte {e : TypeId} {D : Nat} (hu : P.underlying e = some (.int .u8)) (m : List UInt8) (hm : m.length = 1) : P.keyLits (D + 1) e (m.map bval) = some (m.map litB) := by
  obtain ⟨x, rfl⟩ : ∃ x, m = [x] := by
    match m, hm with
    | [x], _ => exact ⟨x, rfl⟩
  have := x.toNat_lt
  unfold Program.keyLits
  rw [hu]
  have hw : (Lit.int .u8 (x.toNat : Int)).wf = true := by simp [Lit.wf, show IntKind.u8.min = 0 from rfl, show IntKind.u8.max = 255 from rfl]; omega
  simp [bval, litB, hw]

theorem eql_lits {t : TypeId} {m D : Nat} (hm : m ≤ 10000) (hk : P.keyTypeAt m t = true) {l r : List UInt8} (fl : (Value.agg (l.map bval).toArray).formed P t = true) (fr : (Value.agg (r.map bval).toArray).formed P t = true)
    (hl : P.keyLits D t (l.map bval) = some (l.map litB)) (hr : P.keyLits D t (r.map bval) = some (r.map litB)) (w : World) :
    (binOp .eql t (.agg (l.map bval).toArray) (.agg (r.map bval).toArray)).run P w = .ok (.bool (decide (l = r))) w ∧ (binOp .neq t (.agg (l.map bval).toArray) (.agg (r.map bval).toArray)).run P w = .ok (.bool (!decide (l = r))) w := by
  obtain ⟨b, hb, hiff⟩ := run_equalIn_deep (P := P) (10000 - m) m t hk w D D _ _ _ _ fl fr (by simpa [Value.cells] using hl) (by simpa [Value.cells] using hr)
  rw [show 10000 - m + m = 10000 by omega] at hb
  have e : b = decide (l = r) := by
    rw [litB_inj] at hiff
    by_cases h : l = r
    · simp [h, hiff.2 h]
    · have : b = false := by
        cases b
        · rfl
        · exact absurd (hiff.1 rfl) h
      simp [h, this]
  rw [run_eql_struct, run_neq_struct, hb, e]
  exact ⟨rfl, rfl⟩
end

end Go.Proofs.Ytfboddnpkaiifaa
/- cut: shapes compared; Fits, size, SegSize, BlockSize, Cover. -/
namespace Go.Proofs.Ytfboddnpkaiifaa
open Go.RowKit

def i64ok (x : Int) : Prop := -9223372036854775808 ≤ x ∧ x ≤ 9223372036854775807
structure Sh.Wf (s : Sh) : Prop where
  k : i64ok s.k
  n : i64ok s.n
  seg : i64ok s.seg
  size : i64ok s.size
  segs : i64ok s.segs
  tail : i64ok s.tail
  block : i64ok s.block
  last : i64ok s.last
def Sh.lits (s : Sh) : List Lit := [.int .i64 s.k, .int .i64 s.n, .int .i64 s.seg, .int .i64 s.size, .int .i64 s.segs, .int .i64 s.tail, .int .i64 s.block, .int .i64 s.last]
def Sh.cells (s : Sh) : List Value := [.int .i64 s.k, .int .i64 s.n, .int .i64 s.seg, .int .i64 s.size, .int .i64 s.segs, .int .i64 s.tail, .int .i64 s.block, .int .i64 s.last]
theorem Sh.val_cells (s : Sh) : s.val = .agg s.cells.toArray := rfl
theorem Sh.lits_inj {s t : Sh} : s.lits = t.lits ↔ s = t := by
  constructor
  · intro h
    cases s; cases t
    simp only [Sh.lits, List.cons.injEq, Lit.int.injEq, true_and, and_true] at h
    obtain ⟨rfl, rfl, rfl, rfl, rfl, rfl, rfl, rfl⟩ := h
    rfl
  · rintro rfl; rfl
theorem lits_int {x : Int} (h : i64ok x) (D : Nat) : Try.prog.keyLits (D + 1) 3 [.int .i64 x] = some [.int .i64 x] := by
  unfold Program.keyLits
  rw [Try.underlying3]
  have hw : (Lit.int .i64 x).wf = true := by
    obtain ⟨h1, h2⟩ := h
    simp [Lit.wf, show IntKind.i64.min = -9223372036854775808 from rfl, show IntKind.i64.max = 9223372036854775807 from rfl]
    omega
  simp [hw]
theorem lits_sh {s : Sh} (h : s.Wf) : Try.prog.keyLits 2 47 s.cells = some s.lits := by
  unfold Program.keyLits
  rw [Try.underlying47]
  have hc : Try.prog.cellsOf 3 = 1 := by kernel_rfl
  have hn : Try.prog.cellsOf 47 = 8 := by kernel_rfl
  simp [Sh.cells, hc, hn, lits_int h.k 0, lits_int h.n 0, lits_int h.seg 0, lits_int h.size 0, lits_int h.segs 0, lits_int h.tail 0, lits_int h.block 0, lits_int h.last 0, Sh.lits]
theorem formed_sh (s : Sh) : s.val.formed Try.prog 47 = true := by
  simp [Sh.val, Value.formed, Try.underlying47]; kernel_rfl
theorem eq_sh {s t : Sh} (hs : s.Wf) (ht : t.Wf) (w : World) :
    (binOp .eql 47 s.val t.val).run Try.prog w = .ok (.bool (decide (s = t))) w ∧ (binOp .neq 47 s.val t.val).run Try.prog w = .ok (.bool (!decide (s = t))) w := by
  obtain ⟨b, hb, hiff⟩ := run_equalIn_deep (P := Try.prog) 9995 5 47 (by kernel_rfl) w 2 2 s.val t.val s.lits t.lits (formed_sh s) (formed_sh t) (lits_sh hs) (lits_sh ht)
  have e : b = decide (s = t) := by
    rw [Sh.lits_inj] at hiff
    by_cases h : s = t
    · simp [h, hiff.2 h]
    · have : b = false := by
        cases b
        · rfl
        · exact absurd (hiff.1 rfl) h
      simp [h, this]
  unfold Sh.val at hb ⊢
  rw [run_eql_struct, run_neq_struct, hb, e]
  exact ⟨rfl, rfl⟩
theorem eq_guard_sh : Try.prog.eqGuardType Try.prog.depth 47 = false := by kernel_rfl

end Go.Proofs.Ytfboddnpkaiifaa
/- cut: Fits. -/
namespace Go.Proofs.Ytfboddnpkaiifaa
open Go.RowKit

theorem wpList_load_rowW {P : Program} {ops : Array Oper} {rest : List Oper} {o : Oper} {a : Act} {w : World} {Q : Exit → Act → World → Prop} (hw : Region.wanted o (yielded ops a.tmps) = true) (ty : TypeId) (x : Operand) (ho : o.op = .load ty x)
    (g : Nat) (hx : a.eval x = .pointer (some ⟨g, 0, none⟩)) (t : TypeId) (cs : Array Value) (fr : Nat × Nat) (d : TypeDesc) (hg : w.heap[g]? = some (.cells cs t fr))
    (hu : P.underlying ty = some d) (hd : (match d with | .struct _ | .array _ _ => true | _ => false) = true) (hi : (P.info? ty).map (·.size) = some cs.size)
    (h : wpList P ops Q rest (a.put o.dst (.agg cs)) w) : wpList P ops Q (o :: rest) a w := by
  unfold wpList
  rw [if_pos hw]
  exact .inl (wp_load_row ty x ho g hx t cs fr d hg hu hd hi h)

theorem i64ok_nat {n : Nat} (h : n ≤ 100000000) : i64ok (n : Int) := ⟨by omega, by omega⟩
theorem noSh_wf : noSh.Wf := by constructor <;> exact ⟨by decide, by decide⟩
theorem laid_wf {k n g z : Nat} (hn : n ≤ 255) (h : Nums k g z) : (laidN k n g z).Wf := by
  obtain ⟨s, t, q, l, p, L⟩ := nums_laid h
  rw [L.val]
  have h1 := h.k2
  have h2 := h.g2
  have h3 := h.z2
  have h4 := L.s1
  have h5 := L.t2
  have h6 : l ≤ t := by rw [← L.e2]; exact upN_small h.k1
  have h7 : q ≤ g := by rw [← L.eq]; exact Nat.div_le_self _ _
  exact ⟨i64ok_nat (by omega), i64ok_nat (by omega), i64ok_nat (by omega), i64ok_nat (by omega), i64ok_nat (by omega), i64ok_nat (by omega), i64ok_nat (by omega), i64ok_nat (by omega)⟩
theorem four_nums {k n seg z : Int} (h : four k n seg z) : Nums k.toNat seg.toNat z.toNat ∧ n.toNat ≤ 255 := by
  obtain ⟨h1, h2, h3, h4, h5, h6, h7, h8, h9⟩ := h
  have hd := Nat.div_add_mod seg.toNat k.toNat
  rw [h6, Nat.add_zero] at hd
  have hu := upN_lt (a := 65536) (b := k.toNat) (by omega)
  have hm : k.toNat * (seg.toNat / k.toNat) ≤ k.toNat * upN 65536 k.toNat := Nat.mul_le_mul_left _ h7
  rw [Nat.mul_comm k.toNat (upN _ _)] at hm
  exact ⟨⟨by omega, by omega, by omega, by omega, by omega, by omega⟩, by omega⟩
theorem ag_wf (k n seg z : Int) : (agS k n seg z).Wf := by
  unfold agS
  split
  · obtain ⟨h1, h2⟩ := four_nums (agE_zero.1 (by assumption)).1
    exact laid_wf h2 h1
  · exact noSh_wf
theorem good_nums {k n seg z : Int} {ls : Nat} (h : good k n seg ls) (hz : sized z) : Nums k.toNat (segT k seg) z.toNat ∧ n.toNat ≤ 255 := by
  have := four_nums (four_of h hz)
  simpa using this
theorem sh_wf (k n seg : Int) (ls : Nat) (z : Int) : (shS k n seg ls z).Wf := by
  unfold shS
  split
  · obtain ⟨h1, h2, _⟩ := shE_zero.1 (by assumption)
    obtain ⟨h3, h4⟩ := good_nums h1 h2
    exact laid_wf h4 h3
  · exact noSh_wf

theorem fits_dec (s : Sh) : decide (fits s) = (decide (agE s.k s.n s.seg s.size = 0) && decide (s = agS s.k s.n s.seg s.size)) := by
  have h : fits s ↔ agE s.k s.n s.seg s.size = 0 ∧ s = agS s.k s.n s.seg s.size := Iff.rfl
  rw [← Bool.decide_and]
  exact decide_eq_decide.2 h

set_option maxRecDepth 100000 in
set_option maxHeartbeats 4000000 in
theorem fits_n (s : Sh) (hs : s.Wf) (w : World) : Calls Try.prog 36 #[s.val] w fun e w' => e = .returned (.bool (decide (fits s))) ∧ w.grownBy w' none := by
  have ha := fun w => again_n s.k s.n s.seg s.size hs.seg.2 w
  have hq := fun w => (eq_sh hs (ag_wf s.k s.n s.seg s.size) w).1
  have hres := fits_dec s
  rw [hres]
  generalize agS s.k s.n s.seg s.size = T at ha hq hres ⊢
  generalize agE s.k s.n s.seg s.size = E at ha hq hres ⊢
  generalize hc : decide (s = T) = c at hq hres ⊢
  clear hc hres
  obtain ⟨k, n, g, z, sg, t, b, l⟩ := s
  obtain ⟨k', n', g', z', sg', t', b', l'⟩ := T
  have HA := Lib.hid ha
  have hq' : ∀ w, (binOp .eql 47 (.agg #[.int .i64 k, .int .i64 n, .int .i64 g, .int .i64 z, .int .i64 sg, .int .i64 t, .int .i64 b, .int .i64 l]) (.agg #[.int .i64 k', .int .i64 n', .int .i64 g', .int .i64 z', .int .i64 sg', .int .i64 t', .int .i64 b', .int .i64 l'])).run Try.prog w = .ok (.bool c) w := hq
  have hgu := eq_guard_sh
  clear ha hq hs
  show Calls Try.prog 36 #[.agg #[.int .i64 k, .int .i64 n, .int .i64 g, .int .i64 z, .int .i64 sg, .int .i64 t, .int .i64 b, .int .i64 l]] w _
  go_enter Try.func36, Try.ntmps36
  go_wp2_with fail
  refine (HA.out _).mono ?_
  rintro e w1 ⟨rfl, hg⟩
  have hp := heap_grown (heap_alloc_new w (.cells #[.int .i64 k, .int .i64 n, .int .i64 g, .int .i64 z, .int .i64 sg, .int .i64 t, .int .i64 b, .int .i64 l] 47)) hg
  have hg0 := grownBy_trans (World.grownBy_alloc w (.cells #[.int .i64 k, .int .i64 n, .int .i64 g, .int .i64 z, .int .i64 sg, .int .i64 t, .int .i64 b, .int .i64 l] 47) none) hg
  have hl1 : w.heap.size < w1.heap.size := (Array.getElem?_eq_some_iff.1 hp).1
  have HG0 := Lib.hid hg0
  have HP := Lib.hid hp
  clear hg hg0 hp
  have HN := Lib.hid (heap_alloc_new w1 (.cells #[.int .i64 0, .int .i64 0, .int .i64 0, .int .i64 0, .int .i64 0, .int .i64 0, .int .i64 0, .int .i64 0] 47))
  have HP2 := Lib.hid (heap_grown HP.out (World.grownBy_alloc w1 (.cells #[.int .i64 0, .int .i64 0, .int .i64 0, .int .i64 0, .int .i64 0, .int .i64 0, .int .i64 0, .int .i64 0] 47) none))
  have HG2 := Lib.hid (grownBy_trans HG0.out (World.grownBy_alloc w1 (.cells #[.int .i64 0, .int .i64 0, .int .i64 0, .int .i64 0, .int .i64 0, .int .i64 0, .int .i64 0, .int .i64 0] 47) none))
  obtain ⟨W, hW⟩ : ∃ W, W = (w1.alloc (.cells #[.int .i64 0, .int .i64 0, .int .i64 0, .int .i64 0, .int .i64 0, .int .i64 0, .int .i64 0, .int .i64 0] 47)).setRow w1.heap.size #[.int .i64 k', .int .i64 n', .int .i64 g', .int .i64 z', .int .i64 sg', .int .i64 t', .int .i64 b', .int .i64 l'] := ⟨_, rfl⟩
  have hg1 := grownBy_old HG2.out (grownBy_setRow _ w1.heap.size #[.int .i64 k', .int .i64 n', .int .i64 g', .int .i64 z', .int .i64 sg', .int .i64 t', .int .i64 b', .int .i64 l']) (by omega)
  have hn1 : ((w1.alloc (.cells #[.int .i64 0, .int .i64 0, .int .i64 0, .int .i64 0, .int .i64 0, .int .i64 0, .int .i64 0, .int .i64 0] 47)).setRow w1.heap.size #[.int .i64 k', .int .i64 n', .int .i64 g', .int .i64 z', .int .i64 sg', .int .i64 t', .int .i64 b', .int .i64 l']).heap[w1.heap.size]? = some (.cells #[.int .i64 k', .int .i64 n', .int .i64 g', .int .i64 z', .int .i64 sg', .int .i64 t', .int .i64 b', .int .i64 l'] 47 (0, 0)) := setRow_heap _ _ _ _ _ _ HN.out
  have hr1 : ((w1.alloc (.cells #[.int .i64 0, .int .i64 0, .int .i64 0, .int .i64 0, .int .i64 0, .int .i64 0, .int .i64 0, .int .i64 0] 47)).setRow w1.heap.size #[.int .i64 k', .int .i64 n', .int .i64 g', .int .i64 z', .int .i64 sg', .int .i64 t', .int .i64 b', .int .i64 l']).heap[w.heap.size]? = some (.cells #[.int .i64 k, .int .i64 n, .int .i64 g, .int .i64 z, .int .i64 sg, .int .i64 t, .int .i64 b, .int .i64 l] 47 (0, 0)) := (setRow_other _ w1.heap.size w.heap.size _ (by omega)).trans HP2.out
  rw [← hW] at hg1 hn1 hr1
  have HGG := Lib.hid hg1
  have HN1 := Lib.hid hn1
  have HRR := Lib.hid hr1
  have HW := Lib.hid hW
  clear hg1 hn1 hr1 hW
  by_cases hE : E = 0
  · subst hE
    have hE' : ((0 : Nat) : Int) = 0 := rfl
    go_wp2_with (first | (refine wpList_store_row rfl 47 _ _ rfl w1.heap.size #[.int .i64 k', .int .i64 n', .int .i64 g', .int .i64 z', .int .i64 sg', .int .i64 t', .int .i64 b', .int .i64 l'] rfl rfl 47 _ HN.out size_shape rfl (by simp [Value.oneCell']) ?_; rw [← HW.out]) | (refine wpList_load_rowW (by rfl) 47 _ rfl w1.heap.size rfl 47 #[.int .i64 k', .int .i64 n', .int .i64 g', .int .i64 z', .int .i64 sg', .int .i64 t', .int .i64 b', .int .i64 l'] (0, 0) _ HN1.out Try.underlying47 rfl size_shape ?_) | (refine wpList_load_rowW (by rfl) 47 _ rfl w.heap.size rfl 47 #[.int .i64 k, .int .i64 n, .int .i64 g, .int .i64 z, .int .i64 sg, .int .i64 t, .int .i64 b, .int .i64 l] (0, 0) _ HRR.out Try.underlying47 rfl size_shape ?_))
    go_ret
    exact ⟨by simp, HGG.out⟩
  · have hE' : ¬ (E : Int) = 0 := by omega
    go_wp2_with (first | (refine wpList_store_row rfl 47 _ _ rfl w1.heap.size #[.int .i64 k', .int .i64 n', .int .i64 g', .int .i64 z', .int .i64 sg', .int .i64 t', .int .i64 b', .int .i64 l'] rfl rfl 47 _ HN.out size_shape rfl (by simp [Value.oneCell']) ?_; rw [← HW.out]))
    go_ret
    exact ⟨by simp [hE], HGG.out⟩

end Go.Proofs.Ytfboddnpkaiifaa
/- The laws' awake: a shape that the document fixes, and a segment's blocks. -/
namespace Go.Proofs.Ytfboddnpkaiifaa
open Go.RowKit

theorem params_info : ∃ i, Try.prog.info? 45 = some i ∧ i.zero = some (.agg #[.int .i64 0, .int .i64 0, .int .i64 0, .int .i64 0, .slice none 0 0]) ∧ i.size = 5 ∧ i.bytes = i.bytes := by
  refine ⟨(Try.prog.info? 45).getD default, by kernel_rfl, by kernel_rfl, by kernel_rfl, rfl⟩
theorem shape_info : ∃ i, Try.prog.info? 47 = some i ∧ i.zero = some noSh.val ∧ i.size = 8 := by
  refine ⟨(Try.prog.info? 47).getD default, by kernel_rfl, by kernel_rfl, by kernel_rfl⟩
theorem blies_new (w : World) (l : List UInt8) (t : TypeId) : BLies (w.alloc (.cells (l.map bval).toArray t)) (some ⟨w.heap.size, 0, none⟩) l := by
  intro k hk
  refine ⟨w.heap.size, 0, rfl, ?_⟩
  have hh := heap_alloc_new w (.cells (l.map bval).toArray t)
  simp only [World.cell?, hh]
  simp [hk, bval]

set_option maxRecDepth 100000 in
set_option maxHeartbeats 1000000 in
theorem sample_n (w : World) : Calls Try.prog 45 #[] w fun e w' => e = .returned (prV 3 5 10 0 none 0 0) ∧ w.grownBy w' none := by
  have HN := Lib.hid (heap_alloc_new w (.cells #[.int .i64 0, .int .i64 0, .int .i64 0, .int .i64 0, .slice none 0 0] 45))
  have hr := setRow_heap _ w.heap.size _ #[.int .i64 3, .int .i64 5, .int .i64 10, .int .i64 0, .slice none 0 0] 45 _ HN.out
  have HR := Lib.hid hr
  have hg := grownBy_old (World.grownBy_alloc w (.cells #[.int .i64 0, .int .i64 0, .int .i64 0, .int .i64 0, .slice none 0 0] 45) none) (grownBy_setRow _ w.heap.size #[.int .i64 3, .int .i64 5, .int .i64 10, .int .i64 0, .slice none 0 0]) (Nat.le_refl _)
  have HG := Lib.hid hg
  clear hr hg
  go_enter Try.func45, Try.ntmps45
  go_wp2_with (first | (refine wpList_store_row rfl 45 _ _ rfl w.heap.size #[.int .i64 3, .int .i64 5, .int .i64 10, .int .i64 0, .slice none 0 0] rfl rfl 45 _ HN.out (by kernel_rfl) rfl (by simp [Value.oneCell']) ?_))
  refine bodyPost_ret (results_cell_row rfl _ _ w.heap.size 45 _ (0, 0) _ rfl HR.out Try.underlying45 rfl (by kernel_rfl)) rfl ?_
  exact ⟨rfl, HG.out⟩

theorem eq_same {s : Sh} (hs : s.Wf) (w : World) :
    (binOp .eql 47 s.val s.val).run Try.prog w = .ok (.bool true) w ∧ (binOp .neq 47 s.val s.val).run Try.prog w = .ok (.bool false) w := by
  have h := eq_sh hs hs w
  simpa using h

theorem aw_shape (w : World) : Calls Try.prog 29 #[prV 3 5 10 0 none 0 0, .int .i64 100] w fun e w' => e = .returned (.tuple #[.agg #[.int .i64 3, .int .i64 5, .int .i64 12, .int .i64 100, .int .i64 9, .int .i64 4, .int .i64 4, .int .i64 2], .int .i64 0]) ∧ w.grownBy w' none := by
  have h := shape_t 3 5 10 0 100 none 0 0 w
  have e1 : shS 3 5 10 0 100 = ⟨3, 5, 12, 100, 9, 4, 4, 2⟩ := by decide
  have e2 : shE 3 5 10 0 100 = 0 := by decide
  rw [e1, e2] at h
  exact h

theorem aw_blocks (g : Nat) (w : World) (h : BLies w (some ⟨g, 0, none⟩) [1, 2, 3, 4]) :
    Calls Try.prog 15 #[.slice (some ⟨g, 0, none⟩) 4 4, .int .i64 3] w fun e w' => (∃ a' c', e = .returned (.tuple #[.slice a' 3 c', .int .i64 0]) ∧ LOwn w' w.heap.size a' 3 c' [[1, 2], [3, 4], [0, 0]]) ∧ w.grownBy w' none :=
  blocks_ok (some ⟨g, 0, none⟩) 4 4 3 21846 2 [1, 2, 3, 4] w h rfl (by decide) (bk_num (k := 3) (n := 4) (by decide) (by decide) (by decide) (by decide)) (by decide) (by decide)

theorem aw_join (a : Option Addr) (c : Nat) (L : List Sl) (w : World) (hL : LLies w a L [[1, 2], [3, 4], [0, 0]]) :
    Calls Try.prog 23 #[.slice a 3 c, .int .i64 4] w fun e w' => (∃ a' c', e = .returned (.tuple #[.slice a' 4 c', .int .i64 0]) ∧ BOwn w' w.heap.size a' 4 c' [1, 2, 3, 4]) ∧ w.grownBy w' none := by
  refine (join_ok a c 3 4 21846 2 L [[1, 2], [3, 4], [0, 0]] w hL rfl (bk_num (k := 3) (n := 4) (by decide) (by decide) (by decide) (by decide)) (by decide) (by decide)).mono ?_
  rintro e w' ⟨⟨_, h⟩ | ⟨h, _⟩, hg⟩
  · exact ⟨h, hg⟩
  · exact absurd (by decide) h

theorem bv1234 : ([1, 2, 3, 4] : List UInt8).map bval = [.int .u8 1, .int .u8 2, .int .u8 3, .int .u8 4] := rfl
theorem bv34 : ([3, 4] : List UInt8).map bval = [.int .u8 3, .int .u8 4] := rfl
theorem bv00 : ([0, 0] : List UInt8).map bval = [.int .u8 0, .int .u8 0] := rfl
theorem bl1234 (w : World) : BLies (w.alloc (.cells #[.int .u8 1, .int .u8 2, .int .u8 3, .int .u8 4] 5)) (some ⟨w.heap.size, 0, none⟩) [1, 2, 3, 4] := by
  have h := blies_new w [1, 2, 3, 4] 5
  rw [bv1234] at h
  exact h
theorem bl34 (w : World) : BLies (w.alloc (.cells #[.int .u8 3, .int .u8 4] 5)) (some ⟨w.heap.size, 0, none⟩) [3, 4] := by
  have h := blies_new w [3, 4] 5
  rw [bv34] at h
  exact h
theorem bl00 (w : World) : BLies (w.alloc (.cells #[.int .u8 0, .int .u8 0] 5)) (some ⟨w.heap.size, 0, none⟩) [0, 0] := by
  have h := blies_new w [0, 0] 5
  rw [bv00] at h
  exact h

set_option maxRecDepth 100000 in
set_option maxHeartbeats 4000000 in
theorem awake_n (w : World) : Calls Try.prog 21 #[] w fun e w' => e = .returned (.bool true) ∧ w.grownBy w' none := by
  have hgu := eq_guard_sh
  have hq : ∀ w, (binOp .neq 47 (.agg #[.int .i64 3, .int .i64 5, .int .i64 12, .int .i64 100, .int .i64 9, .int .i64 4, .int .i64 4, .int .i64 2]) (.agg #[.int .i64 3, .int .i64 5, .int .i64 12, .int .i64 100, .int .i64 9, .int .i64 4, .int .i64 4, .int .i64 2])).run Try.prog w = .ok (.bool false) w := fun w => (eq_same (s := ⟨3, 5, 12, 100, 9, 4, 4, 2⟩) (by constructor <;> exact ⟨by decide, by decide⟩) w).2
  obtain ⟨i, hi, hz, hs⟩ := shape_info
  have HI := Lib.hid hi
  have HZ := Lib.hid hz
  have HS := Lib.hid hs
  clear hi hz hs
  go_enter Try.func21, Try.ntmps21
  go_wp2_with fail
  refine (sample_n _).mono ?_
  rintro e w1 ⟨rfl, hg1⟩
  unfold prV
  have HG1 := Lib.hid hg1
  clear hg1
  go_wp2_with fail
  refine (aw_shape _).mono ?_
  rintro e w2 ⟨rfl, hg2⟩
  have HG2 := Lib.hid (grownBy_trans HG1.out hg2)
  clear hg2
  go_wp2_with (first | (refine wpList_fresh rfl rfl rfl rfl rfl HI.out HZ.out (by rw [HS.out]; rfl) #[.int .i64 3, .int .i64 5, .int .i64 12, .int .i64 100, .int .i64 9, .int .i64 4, .int .i64 4, .int .i64 2] rfl rfl rfl (by simp [Value.oneCell']) ?_; intro w3 hs3 hg3 hr3; clear hs3; have HG3 := Lib.hid (grownBy_trans HG2.out hg3); have HR3 := Lib.hid hr3; clear hg3 hr3) | (refine wpList_load_rowW (by rfl) 47 _ rfl w2.heap.size rfl 47 #[.int .i64 3, .int .i64 5, .int .i64 12, .int .i64 100, .int .i64 9, .int .i64 4, .int .i64 4, .int .i64 2] (0, 0) _ HR3.out Try.underlying47 rfl size_shape ?_))
  refine (aw_blocks _ _ (bl1234 w3)).mono ?_
  rintro e w4 ⟨⟨a4, c4, rfl, hl4⟩, hg4⟩
  have HG4 := Lib.hid (grownBy_trans (grownBy_al HG3.out _) hg4)
  obtain ⟨L, hLL, hSO, hBO⟩ := hl4.lies
  have hcap := Own.cap hSO
  obtain ⟨g4, ha4, _, _⟩ := Own.block hSO (by omega)
  subst ha4
  have hL3 : L.length = 3 := hSO.len
  match L, hL3 with
  | [⟨sa, sn, sc⟩, ⟨ta, tn, tc⟩, ⟨ua, un, uc⟩], _ =>
    have HLL := Lib.hid hLL
    obtain ⟨hlies, _, hb⟩ := hLL
    have b1 := hb 1 (by simp) (by simp)
    have b2 := hb 2 (by simp) (by simp)
    obtain ⟨b1l, b1n⟩ := b1
    obtain ⟨b2l, b2n⟩ := b2
    simp only [List.getElem_cons_succ, List.getElem_cons_zero, List.length_cons, List.length_nil, Nat.zero_add, Nat.reduceAdd] at b1l b1n b2l b2n
    obtain ⟨_, _, q1, c1⟩ := hlies 1 (by simp)
    injection q1 with q1; injection q1 with q1 q1'
    subst q1; subst q1'
    obtain ⟨_, _, q2, c2⟩ := hlies 2 (by simp)
    injection q2 with q2; injection q2 with q2 q2'
    subst q2; subst q2'
    subst b1n b2n
    simp only [Nat.zero_add, List.map_cons, List.getElem_cons_succ, List.getElem_cons_zero, Sl.val] at c1 c2
    have HB1 := Lib.hid b1l
    have HB2 := Lib.hid b2l
    clear b1l b2l hlies hb hBO hl4 hg4
    go_wp2_with fail
    refine (same_yes _ _ _ _ 2 2 [3, 4] _ (HB1.out.grown (World.grownBy_alloc w4 _ none)) (bl34 w4) rfl rfl (by decide)).mono ?_
    rintro e w5 ⟨rfl, q5, hq5⟩
    have hg5 : w4.grownBy w5 none := by rw [hq5]; exact grownBy_dr (World.grownBy_alloc w4 _ none) q5
    have HG5 := Lib.hid hg5
    have c2' : w5.cell? ⟨g4, 2, none⟩ = some (.slice ua 2 uc) := hg5.cell c2 (by simp)
    clear hg5 hq5
    go_wp2_with fail
    refine (same_yes _ _ _ _ 2 2 [0, 0] _ ((HB2.out.grown HG5.out).grown (World.grownBy_alloc w5 _ none)) (bl00 w5) rfl rfl (by decide)).mono ?_
    rintro e w6 ⟨rfl, q6, hq6⟩
    have hg6 : w4.grownBy w6 none := by rw [hq6]; exact grownBy_dr (grownBy_al HG5.out _) q6
    have HG6 := Lib.hid hg6
    clear hg6 hq6
    go_wp2_with fail
    refine (aw_join _ _ _ _ (HLL.out.grown HG6.out)).mono ?_
    rintro e w7 ⟨⟨a7, c7, rfl, hb7⟩, hg7⟩
    have HG7 := Lib.hid (grownBy_trans (grownBy_trans HG4.out HG6.out) hg7)
    have HB7 := Lib.hid hb7.lies
    clear hg7 hb7
    go_wp2_with fail
    refine (same_yes _ _ _ _ 4 4 [1, 2, 3, 4] _ (HB7.out.grown (World.grownBy_alloc w7 _ none)) (bl1234 w7) rfl rfl (by decide)).mono ?_
    rintro e w8 ⟨rfl, q8, hq8⟩
    have hg8 : w.grownBy w8 none := by rw [hq8]; exact grownBy_dr (grownBy_al HG7.out _) q8
    have HG8 := Lib.hid hg8
    clear hg8 hq8
    go_wp2_with fail
    refine bodyPost_ret (by simp [*, results, Try.results21, go_sem]; try rfl) rfl ?_
    exact ⟨rfl, HG8.out⟩

end Go.Proofs.Ytfboddnpkaiifaa
