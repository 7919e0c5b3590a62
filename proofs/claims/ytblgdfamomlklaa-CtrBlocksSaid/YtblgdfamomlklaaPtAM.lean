/- Helpers and contracts of the proofs over this seat: IterS, CtrBlocksL. Each states what a function of the program answers, or is plain Lean; its conditions stand in each statement. -/
import Derived.Test.YtblgdfamomlklaaPtAA
import Derived.Test.YtblgdfamomlklaaPtAB
import Derived.Test.YtblgdfamomlklaaPtAC
import Derived.Test.YtblgdfamomlklaaPtAD
import Derived.Test.YtblgdfamomlklaaPtAE
import Derived.Test.YtblgdfamomlklaaPtAF
import Derived.Test.YtblgdfamomlklaaPtAJ
import Derived.Test.YtblgdfamomlklaaPtAK
import Derived.Test.YtblgdfamomlklaaPtAL
set_option linter.unusedVariables false
/- A region that draws its order, all of whose operations come to one value each, in a round. -/
namespace Go.Proofs.Ytblgdfamomlklaa
open Go.RowKit Go.Shelf

theorem wpIn_regionS (S : World → Prop) {l n : Nat} {P : Program} {ops : Array Oper} {Q : Exit → Act → World → Prop} {id : Nat} {a : Act} {w : World} (hnd : noDefer ops = true) (hm : P.follows .mixedOrders = true) (hS : S w.drew)
    (h : wpS P .any ops (QN fun a w => Q .normal a w) S ops.size (Array.replicate ops.size false) a) : (Code.region id ops true).wpIn (Fence.wide.inRound l) n P Q a w :=
  wpIn_any hnd hm (wpS_any _ _ _ _ h hS)

end Go.Proofs.Ytblgdfamomlklaa
/- The law CtrBlocks. -/
namespace Go.Proofs.Ytblgdfamomlklaa
open Go.RowKit Go.Shelf
attribute [local go_sem] Oper.semAt_some

/-- the number and the flag behind k blocks -/
def bnN (fr k : Nat) : Nat := if fr + k < 18446744073709551616 then fr + k else 0
def bnO (fr k : Nat) : Bool := decide (fr + k = 18446744073709551616)
/-- what stands between two rounds -/
structure BkI (w : World) (key : List UInt8) (fr s b1 b2 b3 b5 b6 b9 b10 b11 B : Nat) (Ds : List Nat) (k : Nat) (W : World) : Prop where
  r3 : Row W b3 27 (cellsB key)
  r5 : Row W b5 3 #[.int .i64 (s : Int)]
  r6 : Row W b6 4 #[.bool false]
  q1 : Row W b1 27 (cellsB key)
  q2 : Row W b2 22 #[.int .u64 (fr : Int)]
  r9 : Row W b9 22 #[.int .u64 (bnN fr k : Int)]
  r10 : Row W b10 3 #[.int .i64 (k : Int)]
  r11 : Row W b11 4 #[.bool (bnO fr k)]
  dd : ∀ D ∈ Ds, D < B ∧ W.heap[D]? = some (.deferred (some []))
  gr : w.grownBy W none
theorem BkI.nc {w A X : World} {key : List UInt8} {fr s b1 b2 b3 b5 b6 b9 b10 b11 B : Nat} {Ds : List Nat} {k : Nat} {row : Option Nat} (h : BkI w key fr s b1 b2 b3 b5 b6 b9 b10 b11 B Ds k A) (hg : A.grownBy X row) (hb : w.heap.size ≤ B) (hr : ∀ r, row = some r → B ≤ r ∧ ∃ o : Obj, A.heap[r]? = some o ∧ o.isCells = false) : BkI w key fr s b1 b2 b3 b5 b6 b9 b10 b11 B Ds k X :=
  ⟨h.r3.nc hg hr, h.r5.nc hg hr, h.r6.nc hg hr, h.q1.nc hg hr, h.q2.nc hg hr, h.r9.nc hg hr, h.r10.nc hg hr, h.r11.nc hg hr, fun D hD => by
    obtain ⟨h1, h2⟩ := h.dd D hD
    refine ⟨h1, (hg.block D (Array.getElem?_eq_some_iff.1 h2).1 (fun e => ?_)).trans h2⟩
    have := (hr D e.symm).1
    omega, grown_nc h.gr hg hb hr⟩
theorem BkI.grown {w A X : World} {key : List UInt8} {fr s b1 b2 b3 b5 b6 b9 b10 b11 B : Nat} {Ds : List Nat} {k : Nat} (h : BkI w key fr s b1 b2 b3 b5 b6 b9 b10 b11 B Ds k A) (hg : A.grownBy X none) : BkI w key fr s b1 b2 b3 b5 b6 b9 b10 b11 B Ds k X :=
  ⟨h.r3.grown hg, h.r5.grown hg, h.r6.grown hg, h.q1.grown hg, h.q2.grown hg, h.r9.grown hg, h.r10.grown hg, h.r11.grown hg, fun D hD => by
    obtain ⟨h1, h2⟩ := h.dd D hD
    exact ⟨h1, (hg.block D (Array.getElem?_eq_some_iff.1 h2).1 (by simp)).trans h2⟩, grownBy_trans h.gr hg⟩
/-- what is told of the act behind the assignment -/
def BkA (key : List UInt8) (fr : Nat) (t : Array Value) (pre : List Bk) (x : Bk) (a' : Act) (W : World) : Prop :=
  ∃ g, Row W g 24 (cellsB x.b) ∧ a' = { tmps := (((t.setIfInBounds 27 (.int .u64 (x.n : Int))).setIfInBounds 28 (aggB x.b)).setIfInBounds 12 (.int .u64 (x.n : Int))).setIfInBounds 13 (.pointer (some ⟨g, 0, none⟩)), defers := [] } ∧ x.n = fr + pre.length ∧ x.n < 18446744073709551616 ∧ x.b = ksB key x.n

theorem dds_grown {A X : World} {Ds : List Nat} (h : ∀ D ∈ Ds, A.heap[D]? = some (.deferred (some []))) (hg : A.grownBy X none) : ∀ D ∈ Ds, X.heap[D]? = some (.deferred (some [])) := fun D hD =>
  (hg.block D (Array.getElem?_eq_some_iff.1 (h D hD)).1 (by simp)).trans (h D hD)
theorem dds_far {A X : World} {g : Nat} {Ds : List Nat} (h : ∀ D ∈ Ds, A.heap[D]? = some (.deferred (some []))) (hg : A.grownBy X (some g)) (hne : ∀ D ∈ Ds, D ≠ g) : ∀ D ∈ Ds, X.heap[D]? = some (.deferred (some [])) := fun D hD =>
  (hg.block D (Array.getElem?_eq_some_iff.1 (h D hD)).1 (by simpa using hne D hD)).trans (h D hD)
theorem bn_zero {fr : Nat} (h : fr < 18446744073709551616) : bnN fr 0 = fr := by rw [bnN, Nat.add_zero, if_pos h]
theorem bo_zero {fr : Nat} (h : fr < 18446744073709551616) : bnO fr 0 = false := decide_eq_false (by omega)
theorem func_nil64 (fn : Fn) (a c : Array Value) (w : World) : (binOp .eql 30 (.func fn a c) .nilFunc).run Try.prog w = .ok (.bool false) w := by
  kernel_rfl

set_option maxRecDepth 100000 in
set_option maxHeartbeats 8000000 in
theorem blocks_walk (key : List UInt8) (hkl : key.length = 16) (fr : Nat) (hfr : fr < 18446744073709551616) (st : Int) (w : World) :
    Calls Try.prog 4 #[aggB key, .int .u64 (fr : Int), .int .i64 st] w fun e w' => e = .returned (.bool true) ∧ w.grownBy w' none := by
  have hm : Try.prog.eqGuardType Try.prog.depth 24 = false := by kernel_rfl
  obtain ⟨ii, hii, hiz, hisi, _⟩ := info_parts (show (Try.prog.info? 3).map (fun i => (i.zero, i.size, i.bytes)) = some (some (.int .i64 0), 1, 8) by kernel_rfl)
  obtain ⟨inn, hin, hinz, hins, _⟩ := info_parts (show (Try.prog.info? 22).map (fun i => (i.zero, i.size, i.bytes)) = some (some (.int .u64 0), 1, 8) by kernel_rfl)
  obtain ⟨ib, hib, hibz, hibs, _⟩ := info_parts (show (Try.prog.info? 4).map (fun i => (i.zero, i.size, i.bytes)) = some (some (.bool false), 1, 1) by kernel_rfl)
  obtain ⟨ikb, hikb, hikz, hiks⟩ := block_info
  refine calls_of_wp_marks Try.func4 rfl ?_
  unfold aggB
  simp only [Try.ntmps4, List.size_toArray, List.length_cons, List.length_nil, Nat.reduceAdd, Nat.reduceSub, Array.replicate_succ, Array.replicate_zero, List.push_toArray, List.append_toArray, List.nil_append, List.cons_append]
  go_upto_region 1 with (first
    | (refine wpList_boxed rfl rfl (cellsB key) rfl ?_; intro w1 hs hg hr; have Z1 := Lib.hid hs; have HG := Lib.hid hg; have H3 := Lib.hid hr; clear hs hg hr)
    | (refine wpList_box1 rfl rfl (.int .i64 st) rfl rfl ?_; intro w2 hs hg hr; have Z2 := Lib.hid hs; have HG := Lib.hid (grownBy_trans HG.out hg); have H5 := Lib.hid hr; have H3 := Lib.hid (H3.out.grown hg); have c5 := Row.cell hr 0; simp at c5; clear hs hg hr)
    | (refine wpList_made rfl rfl hib hibz ?_; intro w3 hs hg hr; have Z3 := Lib.hid hs; have HG := Lib.hid (grownBy_trans HG.out hg); have H6 := Lib.hid (show Row w3 w2.heap.size 4 #[.bool false] from hr); have H5 := Lib.hid (H5.out.grown hg); have H3 := Lib.hid (H3.out.grown hg); have c5' := Row.cell H5.out 0; simp at c5'; clear hs hg hr c5))
  clear c5'
  have hc5 := Row.cell H5.out 0
  simp at hc5
  go_upto_region 2 with (first
    | (go_at_call 14; refine (pick_n st 20 (by omega) (by omega) _).mono ?_; rintro e w' ⟨⟨s, rfl, hs20⟩, rfl⟩)
    | (refine wpList_put1 rfl rfl w1.heap.size rfl (.int .i64 (s : Int)) rfl H5.out (by kernel_rfl) rfl ?_; intro w4 hs hg hr; have HZ4 := Lib.hid (show w.heap.size < w1.heap.size ∧ w1.heap.size < w2.heap.size ∧ w2.heap.size < w3.heap.size by have h1 := Z1.out; have h2 := Z2.out; have h3 := Z3.out; omega); have HSZ := Lib.hid hs; replace H3 := Lib.hid (H3.out.grownNe hg (by have := HZ4.out; omega)); replace H6 := Lib.hid (H6.out.grownNe hg (by have := HZ4.out; omega)); replace HG := Lib.hid (grownBy_old HG.out hg (by have := HZ4.out; omega)); have H5' := Lib.hid hr; clear hs hg hr))
  clear hc5 H5
  have H5 := H5'
  clear H5'
  obtain ⟨b3, hb3⟩ : ∃ b3, b3 = w.heap.size := ⟨_, rfl⟩
  obtain ⟨b5, hb5⟩ : ∃ b5, b5 = w1.heap.size := ⟨_, rfl⟩
  obtain ⟨b6, hb6⟩ : ∃ b6, b6 = w2.heap.size := ⟨_, rfl⟩
  rw [← hb3] at H3 ⊢
  rw [← hb5] at H5 ⊢
  rw [← hb6] at H6 ⊢
  have HZ5 := Lib.hid (show w.heap.size ≤ b3 ∧ b3 < b5 ∧ b5 < b6 ∧ b6 < w4.heap.size by have h1 := HZ4.out; have h2 := HSZ.out; omega)
  clear hb3 hb5 hb6 HZ4 HSZ Z1 Z2 Z3
  go_upto_region 3 with (first
    | (refine wpList_load_row rfl 27 _ rfl b3 rfl 27 (cellsB key) (0, 0) _ H3.out Try.underlying27 rfl (by rw [cellsB_size, hkl]; kernel_rfl) ?_)
    | (go_at_call 15; refine (blocks_n key hkl fr _).mono ?_; rintro e w5 ⟨b1, b2, rfl, hb1, hb2, hbl, hbw, hg⟩; have Q1 := Lib.hid (show Row w5 b1 27 (cellsB key) from hb1); have Q2 := Lib.hid hb2; have HNE0 := Lib.hid (show w.heap.size ≤ b3 ∧ b3 < b5 ∧ b5 < b6 ∧ b6 < b1 ∧ b1 < b2 by have h1 := HZ5.out; omega); have HQ2L := Lib.hid hb2.lt; replace HG := Lib.hid (grownBy_trans HG.out hg); replace H3 := Lib.hid (H3.out.grown hg); replace H5 := Lib.hid (H5.out.grown hg); replace H6 := Lib.hid (H6.out.grown hg); clear hb1 hb2 hbl hbw hg))
  clear HZ5
  have hnf := func_nil64 (.func 36) #[] #[.pointer (some ⟨b1, 0, none⟩), .pointer (some ⟨b2, 0, none⟩)]
  have HDS : Hid (∀ D ∈ ([] : List Nat), w5.heap[D]? = some (.deferred (some []))) := Lib.hid (fun D h => absurd h (by simp))
  go_wp2_with fail
  clear hnf
  refine wp_loop_rounds 3 ?_
  rw [rounds_succ]
  go_upto_region 11 with (first
    | (refine wpList_fresh1 rfl rfl rfl rfl rfl hin hinz hins rfl (.int .u64 (fr : Int)) rfl rfl rfl ?_; intro w90 hs hg hr; have H9 := Lib.hid hr; have Z9 := Lib.hid hs; replace HG := Lib.hid (grownBy_trans HG.out hg); replace H3 := Lib.hid (H3.out.grown hg); replace H5 := Lib.hid (H5.out.grown hg); replace H6 := Lib.hid (H6.out.grown hg); replace Q1 := Lib.hid (Q1.out.grown hg); replace Q2 := Lib.hid (Q2.out.grown hg); replace HDS := Lib.hid (dds_grown HDS.out hg); clear hs hg hr)
    | (refine wpList_fresh1 rfl rfl rfl rfl rfl hii hiz hisi rfl (.int .i64 0) rfl rfl rfl ?_; intro w100 hs hg hr; have H10 := Lib.hid hr; have Z10 := Lib.hid hs; replace HG := Lib.hid (grownBy_trans HG.out hg); replace H3 := Lib.hid (H3.out.grown hg); replace H5 := Lib.hid (H5.out.grown hg); replace H6 := Lib.hid (H6.out.grown hg); replace Q1 := Lib.hid (Q1.out.grown hg); replace Q2 := Lib.hid (Q2.out.grown hg); replace H9 := Lib.hid (H9.out.grown hg); replace HDS := Lib.hid (dds_grown HDS.out hg); clear hs hg hr)
    | (refine wpList_fresh1 rfl rfl rfl rfl rfl hib hibz hibs rfl (.bool false) rfl rfl rfl ?_; intro w110 hs hg hr; have H11 := Lib.hid hr; have Z11 := Lib.hid hs; replace HG := Lib.hid (grownBy_trans HG.out hg); replace H3 := Lib.hid (H3.out.grown hg); replace H5 := Lib.hid (H5.out.grown hg); replace H6 := Lib.hid (H6.out.grown hg); replace Q1 := Lib.hid (Q1.out.grown hg); replace Q2 := Lib.hid (Q2.out.grown hg); replace H9 := Lib.hid (H9.out.grown hg); replace H10 := Lib.hid (H10.out.grown hg); replace HDS := Lib.hid (dds_grown HDS.out hg); clear hs hg hr))
  go_wp2_with fail
  obtain ⟨b9, hb9⟩ : ∃ b9, b9 = w5.heap.size := ⟨_, rfl⟩
  obtain ⟨b10, hb10⟩ : ∃ b10, b10 = w90.heap.size := ⟨_, rfl⟩
  obtain ⟨b11, hb11⟩ : ∃ b11, b11 = w100.heap.size := ⟨_, rfl⟩
  obtain ⟨B, hB⟩ : ∃ B, B = w110.heap.size := ⟨_, rfl⟩
  have hne : w.heap.size ≤ b3 ∧ b3 < b5 ∧ b5 < b6 ∧ b6 < b1 ∧ b1 < b2 ∧ b2 < b9 ∧ b9 < b10 ∧ b10 < b11 ∧ b11 < B := by
    have h0 := HNE0.out
    have h1 := Z9.out
    have h2 := Z10.out
    have h3 := Z11.out
    have h4 := HQ2L.out
    omega
  have HNE := Lib.hid hne
  rw [← hb9] at H9 ⊢
  rw [← hb10] at H10 ⊢
  rw [← hb11] at H11 ⊢
  have hdd : ∀ D ∈ ([] : List Nat), D < B ∧ w110.heap[D]? = some (.deferred (some [])) := fun D hD => ⟨hB ▸ (Array.getElem?_eq_some_iff.1 (HDS.out D hD)).1, HDS.out D hD⟩
  have hi0 : BkI w key fr s b1 b2 b3 b5 b6 b9 b10 b11 B [] 0 w110 := ⟨H3.out, H5.out, H6.out, Q1.out, Q2.out, by rw [bn_zero hfr]; exact H9.out, H10.out, by rw [bo_zero hfr]; exact H11.out, hdd, HG.out⟩
  have HI0 := Lib.hid hi0
  have HWB := Lib.hid (show w.heap.size ≤ B by omega)
  have HBE := Lib.hid hB
  clear hb9 hb10 hb11 hne hdd hi0 Z9 Z10 Z11 H9 H10 H11 HDS hB
  refine (wpIn_wide (n := 3)).1 ?_
  refine wpIn_rangeOkHA (F := Fence.wide) (n := 3) rfl (by omega) (gf := 36) (lb := #[.pointer (some ⟨b1, 0, none⟩), .pointer (some ⟨b2, 0, none⟩)]) rfl trivial (enters_of Try.func36 (by kernel_rfl) rfl)
    (blocks1_in 2 b1 b2 key hkl fr hfr w110 Q1.out Q2.out) KeptAb.trans (fun W l o o' _ hl ho _ => KeptAb.put W l o o' hl ho)
    (fun t pre x _ a' W => BkA key fr t pre x a' W) (fun t pre x W0 a' W l o o' ⟨g, hr, ha, hx⟩ hl ho => ⟨g, hr.nc (grownBy_putObj' W l o') (b0 := l) (fun r e => by cases e; exact ⟨Nat.le_refl _, o, hl, ho⟩), ha, hx⟩)
    (Below.refl _ _) (fun _ => rfl)
    (fun pre W => BkI w key fr s b1 b2 b3 b5 b6 b9 b10 b11 B [] pre.length W ∧ pre.length ≤ s) (fun c pre W => c = .exit 2 ∧ BkI w key fr s b1 b2 b3 b5 b6 b9 b10 b11 B [] pre.length W ∧ s < pre.length)
    (fun _ _ _ _ hs hg hr => ⟨hs.1.nc hg HWB.out (HBE.out ▸ hr), hs.2⟩) (fun _ _ _ _ _ hs hg hr => ⟨hs.1, hs.2.1.nc hg HWB.out (HBE.out ▸ hr), hs.2.2⟩)
    ⟨HI0.out, Nat.zero_le _⟩ ?assign0 ?body0 ?done0 ?stop0
  case assign0 =>
    rintro lp pre ⟨xn, xb⟩ W0 W K hI0 hI hkc hok hK
    have hxl : xb.length = 16 := by rw [show xb = _ from hok.2.2]; exact ksB_len key _
    have HK := Lib.hid hK
    have HI := Lib.hid hI
    have HOK := Lib.hid hok
    clear hI hK hI0 hkc hok
    simp only [Bk.vals, aggB, List.zip_toArray, List.foldl_toArray', List.size_toArray, List.zip_cons_cons, List.zip_nil_right, List.foldl_cons, List.foldl_nil, List.setIfInBounds_toArray, List.set_cons_zero, List.set_cons_succ]
    refine wpIn_seq ?_
    refine wpIn_regionP (by kernel_rfl) ?_
    go_wp2_with fail
    refine ⟨rfl, ?_⟩
    refine wpIn_regionP (by kernel_rfl) ?_
    refine wpList_fresh rfl rfl rfl rfl rfl hikb hikz hiks (cellsB xb) rfl rfl (by rw [cellsB_size, hxl]; rfl) (cellsB_one _) ?_
    intro W8 hs8 hg8 hr8
    have HG8 := Lib.hid hg8
    have HR8 := Lib.hid hr8
    clear hs8 hg8 hr8
    refine ⟨rfl, ?_⟩
    exact HK.out _ _ (KeepsFrom.ch (Ch.ofNone HG8.out (fun _ => False)) (fun _ h => h.elim)) (KeptAb.of HG8.out) ⟨HI.out.1.grown HG8.out, HI.out.2⟩ ⟨W.heap.size, HR8.out, rfl, HOK.out.1, HOK.out.2.1, HOK.out.2.2⟩
  case body0 =>
    rintro lp pre ⟨xn, xb⟩ W0 a' W ⟨hI, hks⟩ ⟨g13, hr13, rfl, hxn, hlt, hxb⟩
    simp only at hr13 hxn hxb hlt
    obtain ⟨k, hk⟩ : ∃ k, k = pre.length := ⟨_, rfl⟩
    have hkk : ∀ y : Bk, (pre ++ [y]).length = k + 1 := fun y => by rw [List.length_append, List.length_singleton, hk]
    rw [← hk] at hI hks hxn
    have hxl : xb.length = 16 := by rw [hxb]; exact ksB_len key _
    have hbn : bnN fr k = xn := by rw [bnN, if_pos (by omega), hxn]
    have hbo : bnO fr k = false := decide_eq_false (by omega)
    obtain ⟨h3, h5, h6, q1, q2, h9, h10, h11, hdd, hgr⟩ := hI
    rw [hbn] at h9
    rw [hbo] at h11
    have hrb : ∀ u, Calls Try.prog 16 #[.agg (cellsB key), .int .u64 (xn : Int)] u fun e w' => e = .returned (.agg (cellsB xb)) ∧ u.grownBy w' none := fun u => by rw [hxb]; exact refBlock_n key hkl xn hlt u
    have H3 := Lib.hid h3
    have H5 := Lib.hid h5
    have H6 := Lib.hid h6
    have Q1 := Lib.hid q1
    have Q2 := Lib.hid q2
    have H9 := Lib.hid h9
    have H10 := Lib.hid h10
    have H11 := Lib.hid h11
    have HDD := Lib.hid hdd
    have HI9 := Lib.hid h9
    have HI10 := Lib.hid h10
    have HI11 := Lib.hid h11
    have HGR := Lib.hid hgr
    have HR13 := Lib.hid hr13
    have HRB := Lib.hid hrb
    have HKK := Lib.hid hkk
    have HXN := Lib.hid hxn
    clear h3 h5 h6 q1 q2 h9 h10 h11 hdd hgr hr13 hrb hkk hxn hbn hbo hk hxb
    simp only [List.setIfInBounds_toArray, List.set_cons_zero, List.set_cons_succ]
    refine wpIn_block ?_
    refine wpIn_seq ?_
    refine wpIn_seq ?_
    refine wpIn_regionS (fun u => W.grownBy u none) (by kernel_rfl) (by kernel_rfl) (grownBy_drewN W 1 none) ?_
    refine wpS_take 0 (v := .bool false) (oi := { dst := some 29, op := Op.load 4 (Operand.tmp 11), type := 4, pos := "law.go:29", after := #[], guard := none }) rfl (by kernel_rfl) (by kernel_rfl) (by kernel_rfl) (fun _ _ _ h => by cases h.1) (YS.val (by rfl) (fun u hu => by have hc := Row.cell (H11.out.grown hu) 0; simp at hc; go_simp)) ?_
    simp only [Act.put, List.setIfInBounds_toArray, List.set_cons_zero, List.set_cons_succ]
    refine wpS_take 1 (v := .bool false) (oi := { dst := some 30, op := Op.move (Operand.tmp 29), type := 4, pos := "law.go:29", after := #[{ on := 0, ground := Ground.data }], guard := none }) rfl (by kernel_rfl) (by kernel_rfl) (by kernel_rfl) (fun _ _ _ h => by cases h.1) (YS.val (by rfl) (fun _ _ => rfl)) ?_
    simp only [Act.put, List.setIfInBounds_toArray, List.set_cons_zero, List.set_cons_succ]
    refine wpS_take 2 (v := .int .u64 (xn : Int)) (oi := { dst := some 31, op := Op.move (Operand.tmp 12), type := 22, pos := "law.go:29", after := #[{ on := 1, ground := Ground.guard }], guard := some (1, false) }) rfl (by kernel_rfl) (by kernel_rfl) (by kernel_rfl) (fun _ _ _ h => by cases h.1) (YS.val (by rfl) (fun _ _ => rfl)) ?_
    simp only [Act.put, List.setIfInBounds_toArray, List.set_cons_zero, List.set_cons_succ]
    refine wpS_take 3 (v := .int .u64 (xn : Int)) (oi := { dst := some 32, op := Op.load 22 (Operand.tmp 9), type := 22, pos := "law.go:29", after := #[{ on := 1, ground := Ground.guard }], guard := some (1, false) }) rfl (by kernel_rfl) (by kernel_rfl) (by kernel_rfl) (fun _ _ _ h => by cases h.1) (YS.val (by rfl) (fun u hu => by have hc := Row.cell (H9.out.grown hu) 0; simp at hc; go_simp)) ?_
    simp only [Act.put, List.setIfInBounds_toArray, List.set_cons_zero, List.set_cons_succ]
    refine wpS_take 4 (v := .bool false) (oi := { dst := some 33, op := Op.binOp BinOp.neq 22 (Operand.tmp 31) (Operand.tmp 32) 22, type := 4, pos := "law.go:29", after := #[{ on := 2, ground := Ground.data }, { on := 3, ground := Ground.data }, { on := 1, ground := Ground.guard }], guard := some (1, false) }) rfl (by kernel_rfl) (by kernel_rfl) (by kernel_rfl) (fun _ _ _ h => by cases h.1) (YS.val (by rfl) (fun _ _ => by go_simp)) ?_
    simp only [Act.put, List.setIfInBounds_toArray, List.set_cons_zero, List.set_cons_succ]
    refine wpS_take 5 (v := .bool false) (oi := { dst := some 34, op := Op.pick (Operand.tmp 30) (Operand.const (Value.bool true)) (Operand.tmp 33), type := 4, pos := "law.go:29", after := #[{ on := 1, ground := Ground.data }, { on := 4, ground := Ground.data }], guard := none }) rfl (by kernel_rfl) (by kernel_rfl) (by kernel_rfl) (fun _ _ _ h => by cases h.1) (YS.val (by rfl) (fun _ _ => by go_simp)) ?_
    simp only [Act.put, List.setIfInBounds_toArray, List.set_cons_zero, List.set_cons_succ]
    refine wpS_take 6 (v := .bool false) (oi := { dst := some 35, op := Op.move (Operand.tmp 34), type := 4, pos := "law.go:29", after := #[{ on := 5, ground := Ground.data }, { on := 1, ground := Ground.chain }], guard := none }) rfl (by kernel_rfl) (by kernel_rfl) (by kernel_rfl) (fun _ _ _ h => by cases h.1) (YS.val (by rfl) (fun _ _ => rfl)) ?_
    simp only [Act.put, List.setIfInBounds_toArray, List.set_cons_zero, List.set_cons_succ]
    refine wpS_take 7 (v := .agg (cellsB xb)) (oi := { dst := some 36, op := Op.load 24 (Operand.tmp 13), type := 24, pos := "law.go:29", after := #[{ on := 6, ground := Ground.guard }], guard := some (6, false) }) rfl (by kernel_rfl) (by kernel_rfl) (by kernel_rfl) (fun _ _ _ h => by cases h.1) (YS.val (by rfl) (fun u hu => run_load_op u _ 24 (.tmp 13) rfl g13 rfl 24 (cellsB xb) (HR13.out.grown hu) Try.underlying24 rfl (by rw [cellsB_size, hxl]; kernel_rfl))) ?_
    simp only [Act.put, List.setIfInBounds_toArray, List.set_cons_zero, List.set_cons_succ]
    refine wpS_take 8 (v := .agg (cellsB key)) (oi := { dst := some 37, op := Op.load 27 (Operand.tmp 3), type := 27, pos := "law.go:29", after := #[{ on := 6, ground := Ground.guard }], guard := some (6, false) }) rfl (by kernel_rfl) (by kernel_rfl) (by kernel_rfl) (fun _ _ _ h => by cases h.1) (YS.val (by rfl) (fun u hu => run_load_op u _ 27 (.tmp 3) rfl b3 rfl 27 (cellsB key) (H3.out.grown hu) Try.underlying27 rfl (by rw [cellsB_size, hkl]; kernel_rfl))) ?_
    simp only [Act.put, List.setIfInBounds_toArray, List.set_cons_zero, List.set_cons_succ]
    refine wpS_take 9 (v := .int .u64 (xn : Int)) (oi := { dst := some 38, op := Op.load 22 (Operand.tmp 9), type := 22, pos := "law.go:29", after := #[{ on := 6, ground := Ground.guard }], guard := some (6, false) }) rfl (by kernel_rfl) (by kernel_rfl) (by kernel_rfl) (fun _ _ _ h => by cases h.1) (YS.val (by rfl) (fun u hu => by have hc := Row.cell (H9.out.grown hu) 0; simp at hc; go_simp)) ?_
    simp only [Act.put, List.setIfInBounds_toArray, List.set_cons_zero, List.set_cons_succ]
    refine wpS_take 10 (v := .agg (cellsB xb)) (oi := { dst := some 39, op := Op.call { callee := Callee.value (Operand.func 16), args := #[Operand.tmp 37, Operand.tmp 38], argTypes := #[27, 22] }, type := 24, pos := "law.go:29", after := #[{ on := 8, ground := Ground.data }, { on := 9, ground := Ground.data }, { on := 6, ground := Ground.chain }, { on := 6, ground := Ground.guard }], guard := some (6, false) }) rfl (by kernel_rfl) (by kernel_rfl) (by kernel_rfl) (fun _ _ _ h => by cases h.1) (YS.grow (by rfl) (fun _ => by go_simp) (fun _ _ h g => grownBy_trans h g) (fun u => HRB.out u)) ?_
    simp only [Act.put, List.setIfInBounds_toArray, List.set_cons_zero, List.set_cons_succ]
    refine wpS_take 11 (v := .bool false) (oi := { dst := some 40, op := Op.binOp BinOp.neq 24 (Operand.tmp 36) (Operand.tmp 39) 24, type := 4, pos := "law.go:29", after := #[{ on := 7, ground := Ground.data }, { on := 10, ground := Ground.data }, { on := 6, ground := Ground.guard }], guard := some (6, false) }) rfl (by kernel_rfl) (by kernel_rfl) (by kernel_rfl) (fun _ _ _ h => by cases h.1) (YS.val (by rfl) (fun u _ => run_neq_op u _ hm rfl (cellsB xb) (cellsB xb) rfl rfl (neq_block xb hxl u))) ?_
    simp only [Act.put, List.setIfInBounds_toArray, List.set_cons_zero, List.set_cons_succ]
    refine wpS_take 12 (v := .bool false) (oi := { dst := some 41, op := Op.pick (Operand.tmp 35) (Operand.const (Value.bool true)) (Operand.tmp 40), type := 4, pos := "law.go:29", after := #[{ on := 6, ground := Ground.data }, { on := 11, ground := Ground.data }], guard := none }) rfl (by kernel_rfl) (by kernel_rfl) (by kernel_rfl) (fun _ _ _ h => by cases h.1) (YS.val (by rfl) (fun _ _ => by go_simp)) ?_
    simp only [Act.put, List.setIfInBounds_toArray, List.set_cons_zero, List.set_cons_succ]
    refine wpS_done (by kernel_rfl) (fun w14 hg14 => ?_) _
    refine ⟨rfl, ?_⟩
    replace H3 := Lib.hid (H3.out.grown hg14)
    replace H5 := Lib.hid (H5.out.grown hg14)
    replace H6 := Lib.hid (H6.out.grown hg14)
    replace Q1 := Lib.hid (Q1.out.grown hg14)
    replace Q2 := Lib.hid (Q2.out.grown hg14)
    replace H9 := Lib.hid (H9.out.grown hg14)
    replace H10 := Lib.hid (H10.out.grown hg14)
    replace H11 := Lib.hid (H11.out.grown hg14)
    have HCH := Lib.hid (Ch.ofNone hg14 (fun g => g = b9 ∨ g = b10 ∨ g = b11))
    have HLT := Lib.hid hlt
    have HKS := Lib.hid hks
    have hccx : ∀ g, (g = b9 ∨ g = b10 ∨ g = b11) → ∃ cs t m, W.heap[g]? = some (.cells cs t m) := fun g hs => by
      rcases hs with rfl | rfl | rfl
      · exact ⟨_, _, _, HI9.out⟩
      · exact ⟨_, _, _, HI10.out⟩
      · exact ⟨_, _, _, HI11.out⟩
    clear hg14 hlt hks HR13 HRB
    show Exit.then _ _ _ _ _
    gi_step
    gi_step
    gi_step
    gi_step
    gi_step
    have HCC := Lib.hid hccx
    clear hccx
    rcases Nat.decEq xn 18446744073709551615 with hmx | hmx
    · have hd1 : decide ((xn : Int) = 18446744073709551615) = false := decide_eq_false (by omega)
      have hd2 : ((xn : Int) == 18446744073709551615) = false := by simp; omega
      have hd3 : decide (xn = 18446744073709551615) = false := decide_eq_false hmx
      have hbo : bnO fr (k + 1) = false := decide_eq_false (by have := HXN.out; have := HLT.out; omega)
      have hbn : (bnN fr (k + 1) : Int) = ((xn + 1 : Nat) : Int) := by have := HXN.out; have := HLT.out; rw [bnN, if_pos (by omega)]; omega
      have hwp : IntKind.u64.wrap ((xn : Int) + 1) = ((xn + 1 : Nat) : Int) := by have := HLT.out; rw [IntWalk.u64_in _ (by omega)]; omega
      have HWP := Lib.hid hwp
      have HBO := Lib.hid hbo
      have HBN := Lib.hid hbn
      clear hwp hbo hbn
      have c9 := Row.cell H9.out 0
      simp at c9
      refine wpIn_seq ?_
      refine wpIn_regionP (by kernel_rfl) ?_
      go_wp2_with (refine wpList_put1 rfl rfl b11 rfl (.bool false) rfl H11.out (by kernel_rfl) rfl ?_; intro w16 hs hg hr; have hch := Ch.ofSome (S := fun g => g = b11) hg rfl; replace H3 := Lib.hid (H3.out.ch hch (by have := HNE.out; omega)); replace H5 := Lib.hid (H5.out.ch hch (by have := HNE.out; omega)); replace H6 := Lib.hid (H6.out.ch hch (by have := HNE.out; omega)); replace Q1 := Lib.hid (Q1.out.ch hch (by have := HNE.out; omega)); replace Q2 := Lib.hid (Q2.out.ch hch (by have := HNE.out; omega)); replace H9 := Lib.hid (H9.out.ch hch (by have := HNE.out; omega)); replace H10 := Lib.hid (H10.out.ch hch (by have := HNE.out; omega)); replace HCH := Lib.hid (HCH.out.trans hch (fun _ _ h => by subst h; simp)); replace H11 := Lib.hid hr; clear hs hg hr hch c9)
      refine ⟨rfl, ?_⟩
      show Code.wpIn _ _ _ _ _ _ _
      have hwp := HWP.out
      have c9 := Row.cell H9.out 0
      simp at c9
      refine wpIn_seq ?_
      refine wpIn_regionP (by kernel_rfl) ?_
      go_wp2_with (refine wpList_put1 rfl rfl b9 rfl (.int .u64 ((xn + 1 : Nat) : Int)) rfl H9.out (by kernel_rfl) rfl ?_; intro w17 hs hg hr; have hch := Ch.ofSome (S := fun g => g = b9) hg rfl; replace H3 := Lib.hid (H3.out.ch hch (by have := HNE.out; omega)); replace H5 := Lib.hid (H5.out.ch hch (by have := HNE.out; omega)); replace H6 := Lib.hid (H6.out.ch hch (by have := HNE.out; omega)); replace Q1 := Lib.hid (Q1.out.ch hch (by have := HNE.out; omega)); replace Q2 := Lib.hid (Q2.out.ch hch (by have := HNE.out; omega)); replace H10 := Lib.hid (H10.out.ch hch (by have := HNE.out; omega)); replace H11 := Lib.hid (H11.out.ch hch (by have := HNE.out; omega)); replace HCH := Lib.hid (HCH.out.trans hch (fun _ _ h => by subst h; simp)); replace H9 := Lib.hid hr; clear hs hg hr hch c9)
      refine ⟨rfl, ?_⟩
      show Code.wpIn _ _ _ _ _ _ _
      clear hwp hd1 hd2 hd3
      have hwk : wrap64 ((k : Int) + 1) = ((k + 1 : Nat) : Int) := by have := HKS.out; rw [IntWalk.wrap64_in _ (by omega)]; omega
      have hwj : IntKind.i64.wrap ((k : Int) + 1) = ((k + 1 : Nat) : Int) := by have := HKS.out; rw [IntWalk.i64_in _ (by omega)]; omega
      have c10 := Row.cell H10.out 0
      simp at c10
      refine wpIn_seq ?_
      refine wpIn_regionP (by kernel_rfl) ?_
      go_wp2_with (refine wpList_put1 rfl rfl b10 rfl (.int .i64 ((k + 1 : Nat) : Int)) rfl H10.out (by kernel_rfl) rfl ?_; intro w18 hs hg hr; have hch := Ch.ofSome (S := fun g => g = b10) hg rfl; replace H3 := Lib.hid (H3.out.ch hch (by have := HNE.out; omega)); replace H5 := Lib.hid (H5.out.ch hch (by have := HNE.out; omega)); replace H6 := Lib.hid (H6.out.ch hch (by have := HNE.out; omega)); replace Q1 := Lib.hid (Q1.out.ch hch (by have := HNE.out; omega)); replace Q2 := Lib.hid (Q2.out.ch hch (by have := HNE.out; omega)); replace H9 := Lib.hid (H9.out.ch hch (by have := HNE.out; omega)); replace H11 := Lib.hid (H11.out.ch hch (by have := HNE.out; omega)); replace HCH := Lib.hid (HCH.out.trans hch (fun _ _ h => by subst h; simp)); replace H10 := Lib.hid hr; clear hs hg hr hch c10)
      refine ⟨rfl, ?_⟩
      show Code.wpIn _ _ _ _ _ _ _
      clear hwk hwj
      have hddf : ∀ D ∈ ([] : List Nat), D < B ∧ w18.heap[D]? = some (.deferred (some [])) := fun D hD => by
        obtain ⟨h1, h2⟩ := HDD.out D hD
        refine ⟨h1, (HCH.out.block D (Array.getElem?_eq_some_iff.1 h2).1 (fun hs => ?_)).trans h2⟩
        have hcc : ∃ cs t m, W.heap[D]? = some (.cells cs t m) := HCC.out D hs
        obtain ⟨cs, tt, mm, hcc⟩ := hcc
        rw [h2] at hcc
        cases hcc
      have hfin : BkI w key fr s b1 b2 b3 b5 b6 b9 b10 b11 B [] (k + 1) w18 := ⟨H3.out, H5.out, H6.out, Q1.out, Q2.out, by rw [HBN.out]; exact H9.out, H10.out, by rw [HBO.out]; exact H11.out, hddf, Ch.fresh HGR.out HCH.out (fun g hg hT => by have := HNE.out; omega)⟩
      have HFIN := Lib.hid hfin
      have HKF := Lib.hid (show KeepsFrom w110.heap.size W w18 from KeepsFrom.ch HCH.out HCC.out)
      have HKP := Lib.hid (show KeptAb w110.heap.size W w18 from KeptAb.ch HCH.out (fun g hT => by have := HNE.out; have := HBE.out; omega))
      clear hfin hddf
      have c10 := Row.cell H10.out 0
      have c5 := Row.cell H5.out 0
      simp at c10 c5
      by_cases hks1 : s < k + 1
      · have hd5 : decide ((s : Int) < ((k + 1 : Nat) : Int)) = true := decide_eq_true (by omega)
        have hd6 : decide (s < k + 1) = true := decide_eq_true hks1
        gi_wp2
        exact ⟨HKF.out, rfl, by rw [HKK.out]; exact HFIN.out, by rw [HKK.out]; exact hks1⟩
      · have hd5 : decide ((s : Int) < ((k + 1 : Nat) : Int)) = false := decide_eq_false (by omega)
        have hd6 : decide (s < k + 1) = false := decide_eq_false hks1
        gi_wp2
        exact ⟨HKF.out, HKP.out, by rw [HKK.out]; exact HFIN.out, by rw [HKK.out]; omega⟩
    · have hd1 : decide ((xn : Int) = 18446744073709551615) = true := decide_eq_true (by omega)
      have hd2 : ((xn : Int) == 18446744073709551615) = true := by simp; omega
      have hd3 : decide (xn = 18446744073709551615) = true := decide_eq_true hmx
      have hwp : IntKind.u64.wrap ((xn : Int) + 1) = 0 := by rw [hmx]; decide
      have hbo : bnO fr (k + 1) = true := decide_eq_true (by have := HXN.out; omega)
      have hbn : (bnN fr (k + 1) : Int) = 0 := by have := HXN.out; rw [bnN, if_neg (by omega)]; rfl
      have HWP := Lib.hid hwp
      have HBO := Lib.hid hbo
      have HBN := Lib.hid hbn
      clear hwp hbo hbn
      have c9 := Row.cell H9.out 0
      simp at c9
      refine wpIn_seq ?_
      refine wpIn_regionP (by kernel_rfl) ?_
      go_wp2_with (refine wpList_put1 rfl rfl b11 rfl (.bool true) rfl H11.out (by kernel_rfl) rfl ?_; intro w16 hs hg hr; have hch := Ch.ofSome (S := fun g => g = b11) hg rfl; replace H3 := Lib.hid (H3.out.ch hch (by have := HNE.out; omega)); replace H5 := Lib.hid (H5.out.ch hch (by have := HNE.out; omega)); replace H6 := Lib.hid (H6.out.ch hch (by have := HNE.out; omega)); replace Q1 := Lib.hid (Q1.out.ch hch (by have := HNE.out; omega)); replace Q2 := Lib.hid (Q2.out.ch hch (by have := HNE.out; omega)); replace H9 := Lib.hid (H9.out.ch hch (by have := HNE.out; omega)); replace H10 := Lib.hid (H10.out.ch hch (by have := HNE.out; omega)); replace HCH := Lib.hid (HCH.out.trans hch (fun _ _ h => by subst h; simp)); replace H11 := Lib.hid hr; clear hs hg hr hch c9)
      refine ⟨rfl, ?_⟩
      show Code.wpIn _ _ _ _ _ _ _
      have hwp := HWP.out
      have c9 := Row.cell H9.out 0
      simp at c9
      refine wpIn_seq ?_
      refine wpIn_regionP (by kernel_rfl) ?_
      go_wp2_with (refine wpList_put1 rfl rfl b9 rfl (.int .u64 0) rfl H9.out (by kernel_rfl) rfl ?_; intro w17 hs hg hr; have hch := Ch.ofSome (S := fun g => g = b9) hg rfl; replace H3 := Lib.hid (H3.out.ch hch (by have := HNE.out; omega)); replace H5 := Lib.hid (H5.out.ch hch (by have := HNE.out; omega)); replace H6 := Lib.hid (H6.out.ch hch (by have := HNE.out; omega)); replace Q1 := Lib.hid (Q1.out.ch hch (by have := HNE.out; omega)); replace Q2 := Lib.hid (Q2.out.ch hch (by have := HNE.out; omega)); replace H10 := Lib.hid (H10.out.ch hch (by have := HNE.out; omega)); replace H11 := Lib.hid (H11.out.ch hch (by have := HNE.out; omega)); replace HCH := Lib.hid (HCH.out.trans hch (fun _ _ h => by subst h; simp)); replace H9 := Lib.hid hr; clear hs hg hr hch c9)
      refine ⟨rfl, ?_⟩
      show Code.wpIn _ _ _ _ _ _ _
      clear hwp hd1 hd2 hd3
      have hwk : wrap64 ((k : Int) + 1) = ((k + 1 : Nat) : Int) := by have := HKS.out; rw [IntWalk.wrap64_in _ (by omega)]; omega
      have hwj : IntKind.i64.wrap ((k : Int) + 1) = ((k + 1 : Nat) : Int) := by have := HKS.out; rw [IntWalk.i64_in _ (by omega)]; omega
      have c10 := Row.cell H10.out 0
      simp at c10
      refine wpIn_seq ?_
      refine wpIn_regionP (by kernel_rfl) ?_
      go_wp2_with (refine wpList_put1 rfl rfl b10 rfl (.int .i64 ((k + 1 : Nat) : Int)) rfl H10.out (by kernel_rfl) rfl ?_; intro w18 hs hg hr; have hch := Ch.ofSome (S := fun g => g = b10) hg rfl; replace H3 := Lib.hid (H3.out.ch hch (by have := HNE.out; omega)); replace H5 := Lib.hid (H5.out.ch hch (by have := HNE.out; omega)); replace H6 := Lib.hid (H6.out.ch hch (by have := HNE.out; omega)); replace Q1 := Lib.hid (Q1.out.ch hch (by have := HNE.out; omega)); replace Q2 := Lib.hid (Q2.out.ch hch (by have := HNE.out; omega)); replace H9 := Lib.hid (H9.out.ch hch (by have := HNE.out; omega)); replace H11 := Lib.hid (H11.out.ch hch (by have := HNE.out; omega)); replace HCH := Lib.hid (HCH.out.trans hch (fun _ _ h => by subst h; simp)); replace H10 := Lib.hid hr; clear hs hg hr hch c10)
      refine ⟨rfl, ?_⟩
      show Code.wpIn _ _ _ _ _ _ _
      clear hwk hwj
      have hddf : ∀ D ∈ ([] : List Nat), D < B ∧ w18.heap[D]? = some (.deferred (some [])) := fun D hD => by
        obtain ⟨h1, h2⟩ := HDD.out D hD
        refine ⟨h1, (HCH.out.block D (Array.getElem?_eq_some_iff.1 h2).1 (fun hs => ?_)).trans h2⟩
        have hcc : ∃ cs t m, W.heap[D]? = some (.cells cs t m) := HCC.out D hs
        obtain ⟨cs, tt, mm, hcc⟩ := hcc
        rw [h2] at hcc
        cases hcc
      have hfin : BkI w key fr s b1 b2 b3 b5 b6 b9 b10 b11 B [] (k + 1) w18 := ⟨H3.out, H5.out, H6.out, Q1.out, Q2.out, by rw [HBN.out]; exact H9.out, H10.out, by rw [HBO.out]; exact H11.out, hddf, Ch.fresh HGR.out HCH.out (fun g hg hT => by have := HNE.out; omega)⟩
      have HFIN := Lib.hid hfin
      have HKF := Lib.hid (show KeepsFrom w110.heap.size W w18 from KeepsFrom.ch HCH.out HCC.out)
      have HKP := Lib.hid (show KeptAb w110.heap.size W w18 from KeptAb.ch HCH.out (fun g hT => by have := HNE.out; have := HBE.out; omega))
      clear hfin hddf
      have c10 := Row.cell H10.out 0
      have c5 := Row.cell H5.out 0
      simp at c10 c5
      by_cases hks1 : s < k + 1
      · have hd5 : decide ((s : Int) < ((k + 1 : Nat) : Int)) = true := decide_eq_true (by omega)
        have hd6 : decide (s < k + 1) = true := decide_eq_true hks1
        gi_wp2
        exact ⟨HKF.out, rfl, by rw [HKK.out]; exact HFIN.out, by rw [HKK.out]; exact hks1⟩
      · have hd5 : decide ((s : Int) < ((k + 1 : Nat) : Int)) = false := decide_eq_false (by omega)
        have hd6 : decide (s < k + 1) = false := decide_eq_false hks1
        gi_wp2
        exact ⟨HKF.out, HKP.out, by rw [HKK.out]; exact HFIN.out, by rw [HKK.out]; omega⟩
  case done0 =>
    rintro D0 xs W0 hD hS ⟨hI, hks⟩ hK
    have hov : bnO fr xs.length = true := decide_eq_true hS
    have hle : decide ((xs.length : Int) ≤ (s : Int)) = true := decide_eq_true (by omega)
    have hle2 : decide (xs.length ≤ s) = true := decide_eq_true hks
    obtain ⟨h3, h5, h6, q1, q2, h9, h10, h11, hdd, hgr⟩ := hI
    rw [hov] at h11
    have c11 := Row.cell h11 0
    have c10 := Row.cell h10 0
    have c5 := Row.cell h5 0
    simp at c10 c5 c11
    have hds : ∀ D ∈ ([D0] : List Nat), W0.heap[D]? = some (.deferred (some [])) := fun D hD' => by
      rcases List.mem_cons.1 hD' with rfl | hD'
      · exact hK
      · exact (hdd D hD').2
    have hnd : (D0 :: []).Nodup := List.nodup_cons.2 ⟨fun h => by
      have h1 := (hdd D0 h).1
      have h2 := HBE.out
      omega, List.nodup_nil⟩
    have H3 := Lib.hid h3
    have H5 := Lib.hid h5
    have H6 := Lib.hid h6
    have Q1 := Lib.hid q1
    have Q2 := Lib.hid q2
    have HG := Lib.hid hgr
    have HQ2L := Lib.hid q2.lt
    have HDS := Lib.hid hds
    have HND := Lib.hid hnd
    have HDW0 := Lib.hid (show w.heap.size ≤ D0 from Nat.le_trans HWB.out (HBE.out ▸ hD))
    clear h3 h5 h6 q1 q2 h9 h10 h11 hdd hgr hds hnd hK hD
    go_wp2_with fail
    clear c10 c5 c11 hle hle2 hov
    rw [rounds_succ]
    go_upto_region 11 with (first
      | (refine wpList_fresh1 rfl rfl rfl rfl rfl hin hinz hins rfl (.int .u64 (fr : Int)) rfl rfl rfl ?_; intro w91 hs hg hr; have H9 := Lib.hid hr; have Z9 := Lib.hid hs; replace HG := Lib.hid (grownBy_trans HG.out hg); replace H3 := Lib.hid (H3.out.grown hg); replace H5 := Lib.hid (H5.out.grown hg); replace H6 := Lib.hid (H6.out.grown hg); replace Q1 := Lib.hid (Q1.out.grown hg); replace Q2 := Lib.hid (Q2.out.grown hg); replace HDS := Lib.hid (dds_grown HDS.out hg); clear hs hg hr)
      | (refine wpList_fresh1 rfl rfl rfl rfl rfl hii hiz hisi rfl (.int .i64 0) rfl rfl rfl ?_; intro w101 hs hg hr; have H10 := Lib.hid hr; have Z10 := Lib.hid hs; replace HG := Lib.hid (grownBy_trans HG.out hg); replace H3 := Lib.hid (H3.out.grown hg); replace H5 := Lib.hid (H5.out.grown hg); replace H6 := Lib.hid (H6.out.grown hg); replace Q1 := Lib.hid (Q1.out.grown hg); replace Q2 := Lib.hid (Q2.out.grown hg); replace H9 := Lib.hid (H9.out.grown hg); replace HDS := Lib.hid (dds_grown HDS.out hg); clear hs hg hr)
      | (refine wpList_fresh1 rfl rfl rfl rfl rfl hib hibz hibs rfl (.bool false) rfl rfl rfl ?_; intro w111 hs hg hr; have H11 := Lib.hid hr; have Z11 := Lib.hid hs; replace HG := Lib.hid (grownBy_trans HG.out hg); replace H3 := Lib.hid (H3.out.grown hg); replace H5 := Lib.hid (H5.out.grown hg); replace H6 := Lib.hid (H6.out.grown hg); replace Q1 := Lib.hid (Q1.out.grown hg); replace Q2 := Lib.hid (Q2.out.grown hg); replace H9 := Lib.hid (H9.out.grown hg); replace H10 := Lib.hid (H10.out.grown hg); replace HDS := Lib.hid (dds_grown HDS.out hg); clear hs hg hr))
    go_wp2_with fail
    obtain ⟨b9, hb9⟩ : ∃ b9, b9 = W0.heap.size := ⟨_, rfl⟩
    obtain ⟨b10, hb10⟩ : ∃ b10, b10 = w91.heap.size := ⟨_, rfl⟩
    obtain ⟨b11, hb11⟩ : ∃ b11, b11 = w101.heap.size := ⟨_, rfl⟩
    obtain ⟨B, hB⟩ : ∃ B, B = w111.heap.size := ⟨_, rfl⟩
    have hne : w.heap.size ≤ b3 ∧ b3 < b5 ∧ b5 < b6 ∧ b6 < b1 ∧ b1 < b2 ∧ b2 < b9 ∧ b9 < b10 ∧ b10 < b11 ∧ b11 < B := by
      have h0 := HNE0.out
      have h1 := Z9.out
      have h2 := Z10.out
      have h3 := Z11.out
      have h4 := HQ2L.out
      omega
    have HNE := Lib.hid hne
    rw [← hb9] at H9 ⊢
    rw [← hb10] at H10 ⊢
    rw [← hb11] at H11 ⊢
    have hdd : ∀ D ∈ ([D0] : List Nat), D < B ∧ w111.heap[D]? = some (.deferred (some [])) := fun D hD => ⟨hB ▸ (Array.getElem?_eq_some_iff.1 (HDS.out D hD)).1, HDS.out D hD⟩
    have hi0 : BkI w key fr s b1 b2 b3 b5 b6 b9 b10 b11 B [D0] 0 w111 := ⟨H3.out, H5.out, H6.out, Q1.out, Q2.out, by rw [bn_zero hfr]; exact H9.out, H10.out, by rw [bo_zero hfr]; exact H11.out, hdd, HG.out⟩
    have HI0 := Lib.hid hi0
    have HWB := Lib.hid (show w.heap.size ≤ B by omega)
    have HBE := Lib.hid hB
    clear hb9 hb10 hb11 hne hdd hi0 Z9 Z10 Z11 H9 H10 H11 HDS hB
    refine (wpIn_wide (n := 3)).1 ?_
    refine wpIn_rangeOkHA (F := Fence.wide) (n := 3) rfl (by omega) (gf := 36) (lb := #[.pointer (some ⟨b1, 0, none⟩), .pointer (some ⟨b2, 0, none⟩)]) rfl trivial (enters_of Try.func36 (by kernel_rfl) rfl)
      (blocks1_in 2 b1 b2 key hkl fr hfr w111 Q1.out Q2.out) KeptAb.trans (fun W l o o' _ hl ho _ => KeptAb.put W l o o' hl ho)
      (fun t pre x _ a' W => BkA key fr t pre x a' W) (fun t pre x W0 a' W l o o' ⟨g, hr, ha, hx⟩ hl ho => ⟨g, hr.nc (grownBy_putObj' W l o') (b0 := l) (fun r e => by cases e; exact ⟨Nat.le_refl _, o, hl, ho⟩), ha, hx⟩)
      (Below.refl _ _) (fun _ => rfl)
      (fun pre W => BkI w key fr s b1 b2 b3 b5 b6 b9 b10 b11 B [D0] pre.length W ∧ pre.length ≤ s) (fun c pre W => c = .exit 2 ∧ BkI w key fr s b1 b2 b3 b5 b6 b9 b10 b11 B [D0] pre.length W ∧ s < pre.length)
      (fun _ _ _ _ hs hg hr => ⟨hs.1.nc hg HWB.out (HBE.out ▸ hr), hs.2⟩) (fun _ _ _ _ _ hs hg hr => ⟨hs.1, hs.2.1.nc hg HWB.out (HBE.out ▸ hr), hs.2.2⟩)
      ⟨HI0.out, Nat.zero_le _⟩ ?assign1 ?body1 ?done1 ?stop1
    case assign1 =>
      rintro lp pre ⟨xn, xb⟩ W0 W K hI0 hI hkc hok hK
      have hxl : xb.length = 16 := by rw [show xb = _ from hok.2.2]; exact ksB_len key _
      have HK := Lib.hid hK
      have HI := Lib.hid hI
      have HOK := Lib.hid hok
      clear hI hK hI0 hkc hok
      simp only [Bk.vals, aggB, List.zip_toArray, List.foldl_toArray', List.size_toArray, List.zip_cons_cons, List.zip_nil_right, List.foldl_cons, List.foldl_nil, List.setIfInBounds_toArray, List.set_cons_zero, List.set_cons_succ]
      refine wpIn_seq ?_
      refine wpIn_regionP (by kernel_rfl) ?_
      go_wp2_with fail
      refine ⟨rfl, ?_⟩
      refine wpIn_regionP (by kernel_rfl) ?_
      refine wpList_fresh rfl rfl rfl rfl rfl hikb hikz hiks (cellsB xb) rfl rfl (by rw [cellsB_size, hxl]; rfl) (cellsB_one _) ?_
      intro W8 hs8 hg8 hr8
      have HG8 := Lib.hid hg8
      have HR8 := Lib.hid hr8
      clear hs8 hg8 hr8
      refine ⟨rfl, ?_⟩
      exact HK.out _ _ (KeepsFrom.ch (Ch.ofNone HG8.out (fun _ => False)) (fun _ h => h.elim)) (KeptAb.of HG8.out) ⟨HI.out.1.grown HG8.out, HI.out.2⟩ ⟨W.heap.size, HR8.out, rfl, HOK.out.1, HOK.out.2.1, HOK.out.2.2⟩
    case body1 =>
      rintro lp pre ⟨xn, xb⟩ W0 a' W ⟨hI, hks⟩ ⟨g13, hr13, rfl, hxn, hlt, hxb⟩
      simp only at hr13 hxn hxb hlt
      obtain ⟨k, hk⟩ : ∃ k, k = pre.length := ⟨_, rfl⟩
      have hkk : ∀ y : Bk, (pre ++ [y]).length = k + 1 := fun y => by rw [List.length_append, List.length_singleton, hk]
      rw [← hk] at hI hks hxn
      have hxl : xb.length = 16 := by rw [hxb]; exact ksB_len key _
      have hbn : bnN fr k = xn := by rw [bnN, if_pos (by omega), hxn]
      have hbo : bnO fr k = false := decide_eq_false (by omega)
      obtain ⟨h3, h5, h6, q1, q2, h9, h10, h11, hdd, hgr⟩ := hI
      rw [hbn] at h9
      rw [hbo] at h11
      have hrb : ∀ u, Calls Try.prog 16 #[.agg (cellsB key), .int .u64 (xn : Int)] u fun e w' => e = .returned (.agg (cellsB xb)) ∧ u.grownBy w' none := fun u => by rw [hxb]; exact refBlock_n key hkl xn hlt u
      have H3 := Lib.hid h3
      have H5 := Lib.hid h5
      have H6 := Lib.hid h6
      have Q1 := Lib.hid q1
      have Q2 := Lib.hid q2
      have H9 := Lib.hid h9
      have H10 := Lib.hid h10
      have H11 := Lib.hid h11
      have HDD := Lib.hid hdd
      have HI9 := Lib.hid h9
      have HI10 := Lib.hid h10
      have HI11 := Lib.hid h11
      have HGR := Lib.hid hgr
      have HR13 := Lib.hid hr13
      have HRB := Lib.hid hrb
      have HKK := Lib.hid hkk
      have HXN := Lib.hid hxn
      clear h3 h5 h6 q1 q2 h9 h10 h11 hdd hgr hr13 hrb hkk hxn hbn hbo hk hxb
      simp only [List.setIfInBounds_toArray, List.set_cons_zero, List.set_cons_succ]
      refine wpIn_block ?_
      refine wpIn_seq ?_
      refine wpIn_seq ?_
      refine wpIn_regionS (fun u => W.grownBy u none) (by kernel_rfl) (by kernel_rfl) (grownBy_drewN W 1 none) ?_
      refine wpS_take 0 (v := .bool false) (oi := { dst := some 29, op := Op.load 4 (Operand.tmp 11), type := 4, pos := "law.go:29", after := #[], guard := none }) rfl (by kernel_rfl) (by kernel_rfl) (by kernel_rfl) (fun _ _ _ h => by cases h.1) (YS.val (by rfl) (fun u hu => by have hc := Row.cell (H11.out.grown hu) 0; simp at hc; go_simp)) ?_
      simp only [Act.put, List.setIfInBounds_toArray, List.set_cons_zero, List.set_cons_succ]
      refine wpS_take 1 (v := .bool false) (oi := { dst := some 30, op := Op.move (Operand.tmp 29), type := 4, pos := "law.go:29", after := #[{ on := 0, ground := Ground.data }], guard := none }) rfl (by kernel_rfl) (by kernel_rfl) (by kernel_rfl) (fun _ _ _ h => by cases h.1) (YS.val (by rfl) (fun _ _ => rfl)) ?_
      simp only [Act.put, List.setIfInBounds_toArray, List.set_cons_zero, List.set_cons_succ]
      refine wpS_take 2 (v := .int .u64 (xn : Int)) (oi := { dst := some 31, op := Op.move (Operand.tmp 12), type := 22, pos := "law.go:29", after := #[{ on := 1, ground := Ground.guard }], guard := some (1, false) }) rfl (by kernel_rfl) (by kernel_rfl) (by kernel_rfl) (fun _ _ _ h => by cases h.1) (YS.val (by rfl) (fun _ _ => rfl)) ?_
      simp only [Act.put, List.setIfInBounds_toArray, List.set_cons_zero, List.set_cons_succ]
      refine wpS_take 3 (v := .int .u64 (xn : Int)) (oi := { dst := some 32, op := Op.load 22 (Operand.tmp 9), type := 22, pos := "law.go:29", after := #[{ on := 1, ground := Ground.guard }], guard := some (1, false) }) rfl (by kernel_rfl) (by kernel_rfl) (by kernel_rfl) (fun _ _ _ h => by cases h.1) (YS.val (by rfl) (fun u hu => by have hc := Row.cell (H9.out.grown hu) 0; simp at hc; go_simp)) ?_
      simp only [Act.put, List.setIfInBounds_toArray, List.set_cons_zero, List.set_cons_succ]
      refine wpS_take 4 (v := .bool false) (oi := { dst := some 33, op := Op.binOp BinOp.neq 22 (Operand.tmp 31) (Operand.tmp 32) 22, type := 4, pos := "law.go:29", after := #[{ on := 2, ground := Ground.data }, { on := 3, ground := Ground.data }, { on := 1, ground := Ground.guard }], guard := some (1, false) }) rfl (by kernel_rfl) (by kernel_rfl) (by kernel_rfl) (fun _ _ _ h => by cases h.1) (YS.val (by rfl) (fun _ _ => by go_simp)) ?_
      simp only [Act.put, List.setIfInBounds_toArray, List.set_cons_zero, List.set_cons_succ]
      refine wpS_take 5 (v := .bool false) (oi := { dst := some 34, op := Op.pick (Operand.tmp 30) (Operand.const (Value.bool true)) (Operand.tmp 33), type := 4, pos := "law.go:29", after := #[{ on := 1, ground := Ground.data }, { on := 4, ground := Ground.data }], guard := none }) rfl (by kernel_rfl) (by kernel_rfl) (by kernel_rfl) (fun _ _ _ h => by cases h.1) (YS.val (by rfl) (fun _ _ => by go_simp)) ?_
      simp only [Act.put, List.setIfInBounds_toArray, List.set_cons_zero, List.set_cons_succ]
      refine wpS_take 6 (v := .bool false) (oi := { dst := some 35, op := Op.move (Operand.tmp 34), type := 4, pos := "law.go:29", after := #[{ on := 5, ground := Ground.data }, { on := 1, ground := Ground.chain }], guard := none }) rfl (by kernel_rfl) (by kernel_rfl) (by kernel_rfl) (fun _ _ _ h => by cases h.1) (YS.val (by rfl) (fun _ _ => rfl)) ?_
      simp only [Act.put, List.setIfInBounds_toArray, List.set_cons_zero, List.set_cons_succ]
      refine wpS_take 7 (v := .agg (cellsB xb)) (oi := { dst := some 36, op := Op.load 24 (Operand.tmp 13), type := 24, pos := "law.go:29", after := #[{ on := 6, ground := Ground.guard }], guard := some (6, false) }) rfl (by kernel_rfl) (by kernel_rfl) (by kernel_rfl) (fun _ _ _ h => by cases h.1) (YS.val (by rfl) (fun u hu => run_load_op u _ 24 (.tmp 13) rfl g13 rfl 24 (cellsB xb) (HR13.out.grown hu) Try.underlying24 rfl (by rw [cellsB_size, hxl]; kernel_rfl))) ?_
      simp only [Act.put, List.setIfInBounds_toArray, List.set_cons_zero, List.set_cons_succ]
      refine wpS_take 8 (v := .agg (cellsB key)) (oi := { dst := some 37, op := Op.load 27 (Operand.tmp 3), type := 27, pos := "law.go:29", after := #[{ on := 6, ground := Ground.guard }], guard := some (6, false) }) rfl (by kernel_rfl) (by kernel_rfl) (by kernel_rfl) (fun _ _ _ h => by cases h.1) (YS.val (by rfl) (fun u hu => run_load_op u _ 27 (.tmp 3) rfl b3 rfl 27 (cellsB key) (H3.out.grown hu) Try.underlying27 rfl (by rw [cellsB_size, hkl]; kernel_rfl))) ?_
      simp only [Act.put, List.setIfInBounds_toArray, List.set_cons_zero, List.set_cons_succ]
      refine wpS_take 9 (v := .int .u64 (xn : Int)) (oi := { dst := some 38, op := Op.load 22 (Operand.tmp 9), type := 22, pos := "law.go:29", after := #[{ on := 6, ground := Ground.guard }], guard := some (6, false) }) rfl (by kernel_rfl) (by kernel_rfl) (by kernel_rfl) (fun _ _ _ h => by cases h.1) (YS.val (by rfl) (fun u hu => by have hc := Row.cell (H9.out.grown hu) 0; simp at hc; go_simp)) ?_
      simp only [Act.put, List.setIfInBounds_toArray, List.set_cons_zero, List.set_cons_succ]
      refine wpS_take 10 (v := .agg (cellsB xb)) (oi := { dst := some 39, op := Op.call { callee := Callee.value (Operand.func 16), args := #[Operand.tmp 37, Operand.tmp 38], argTypes := #[27, 22] }, type := 24, pos := "law.go:29", after := #[{ on := 8, ground := Ground.data }, { on := 9, ground := Ground.data }, { on := 6, ground := Ground.chain }, { on := 6, ground := Ground.guard }], guard := some (6, false) }) rfl (by kernel_rfl) (by kernel_rfl) (by kernel_rfl) (fun _ _ _ h => by cases h.1) (YS.grow (by rfl) (fun _ => by go_simp) (fun _ _ h g => grownBy_trans h g) (fun u => HRB.out u)) ?_
      simp only [Act.put, List.setIfInBounds_toArray, List.set_cons_zero, List.set_cons_succ]
      refine wpS_take 11 (v := .bool false) (oi := { dst := some 40, op := Op.binOp BinOp.neq 24 (Operand.tmp 36) (Operand.tmp 39) 24, type := 4, pos := "law.go:29", after := #[{ on := 7, ground := Ground.data }, { on := 10, ground := Ground.data }, { on := 6, ground := Ground.guard }], guard := some (6, false) }) rfl (by kernel_rfl) (by kernel_rfl) (by kernel_rfl) (fun _ _ _ h => by cases h.1) (YS.val (by rfl) (fun u _ => run_neq_op u _ hm rfl (cellsB xb) (cellsB xb) rfl rfl (neq_block xb hxl u))) ?_
      simp only [Act.put, List.setIfInBounds_toArray, List.set_cons_zero, List.set_cons_succ]
      refine wpS_take 12 (v := .bool false) (oi := { dst := some 41, op := Op.pick (Operand.tmp 35) (Operand.const (Value.bool true)) (Operand.tmp 40), type := 4, pos := "law.go:29", after := #[{ on := 6, ground := Ground.data }, { on := 11, ground := Ground.data }], guard := none }) rfl (by kernel_rfl) (by kernel_rfl) (by kernel_rfl) (fun _ _ _ h => by cases h.1) (YS.val (by rfl) (fun _ _ => by go_simp)) ?_
      simp only [Act.put, List.setIfInBounds_toArray, List.set_cons_zero, List.set_cons_succ]
      refine wpS_done (by kernel_rfl) (fun w14 hg14 => ?_) _
      refine ⟨rfl, ?_⟩
      replace H3 := Lib.hid (H3.out.grown hg14)
      replace H5 := Lib.hid (H5.out.grown hg14)
      replace H6 := Lib.hid (H6.out.grown hg14)
      replace Q1 := Lib.hid (Q1.out.grown hg14)
      replace Q2 := Lib.hid (Q2.out.grown hg14)
      replace H9 := Lib.hid (H9.out.grown hg14)
      replace H10 := Lib.hid (H10.out.grown hg14)
      replace H11 := Lib.hid (H11.out.grown hg14)
      have HCH := Lib.hid (Ch.ofNone hg14 (fun g => g = b9 ∨ g = b10 ∨ g = b11))
      have HLT := Lib.hid hlt
      have HKS := Lib.hid hks
      have hccx : ∀ g, (g = b9 ∨ g = b10 ∨ g = b11) → ∃ cs t m, W.heap[g]? = some (.cells cs t m) := fun g hs => by
        rcases hs with rfl | rfl | rfl
        · exact ⟨_, _, _, HI9.out⟩
        · exact ⟨_, _, _, HI10.out⟩
        · exact ⟨_, _, _, HI11.out⟩
      clear hg14 hlt hks HR13 HRB
      show Exit.then _ _ _ _ _
      gi_step
      gi_step
      gi_step
      gi_step
      gi_step
      have HCC := Lib.hid hccx
      clear hccx
      rcases Nat.decEq xn 18446744073709551615 with hmx | hmx
      · have hd1 : decide ((xn : Int) = 18446744073709551615) = false := decide_eq_false (by omega)
        have hd2 : ((xn : Int) == 18446744073709551615) = false := by simp; omega
        have hd3 : decide (xn = 18446744073709551615) = false := decide_eq_false hmx
        have hbo : bnO fr (k + 1) = false := decide_eq_false (by have := HXN.out; have := HLT.out; omega)
        have hbn : (bnN fr (k + 1) : Int) = ((xn + 1 : Nat) : Int) := by have := HXN.out; have := HLT.out; rw [bnN, if_pos (by omega)]; omega
        have hwp : IntKind.u64.wrap ((xn : Int) + 1) = ((xn + 1 : Nat) : Int) := by have := HLT.out; rw [IntWalk.u64_in _ (by omega)]; omega
        have HWP := Lib.hid hwp
        have HBO := Lib.hid hbo
        have HBN := Lib.hid hbn
        clear hwp hbo hbn
        have c9 := Row.cell H9.out 0
        simp at c9
        refine wpIn_seq ?_
        refine wpIn_regionP (by kernel_rfl) ?_
        go_wp2_with (refine wpList_put1 rfl rfl b11 rfl (.bool false) rfl H11.out (by kernel_rfl) rfl ?_; intro w16 hs hg hr; have hch := Ch.ofSome (S := fun g => g = b11) hg rfl; replace H3 := Lib.hid (H3.out.ch hch (by have := HNE.out; omega)); replace H5 := Lib.hid (H5.out.ch hch (by have := HNE.out; omega)); replace H6 := Lib.hid (H6.out.ch hch (by have := HNE.out; omega)); replace Q1 := Lib.hid (Q1.out.ch hch (by have := HNE.out; omega)); replace Q2 := Lib.hid (Q2.out.ch hch (by have := HNE.out; omega)); replace H9 := Lib.hid (H9.out.ch hch (by have := HNE.out; omega)); replace H10 := Lib.hid (H10.out.ch hch (by have := HNE.out; omega)); replace HCH := Lib.hid (HCH.out.trans hch (fun _ _ h => by subst h; simp)); replace H11 := Lib.hid hr; clear hs hg hr hch c9)
        refine ⟨rfl, ?_⟩
        show Code.wpIn _ _ _ _ _ _ _
        have hwp := HWP.out
        have c9 := Row.cell H9.out 0
        simp at c9
        refine wpIn_seq ?_
        refine wpIn_regionP (by kernel_rfl) ?_
        go_wp2_with (refine wpList_put1 rfl rfl b9 rfl (.int .u64 ((xn + 1 : Nat) : Int)) rfl H9.out (by kernel_rfl) rfl ?_; intro w17 hs hg hr; have hch := Ch.ofSome (S := fun g => g = b9) hg rfl; replace H3 := Lib.hid (H3.out.ch hch (by have := HNE.out; omega)); replace H5 := Lib.hid (H5.out.ch hch (by have := HNE.out; omega)); replace H6 := Lib.hid (H6.out.ch hch (by have := HNE.out; omega)); replace Q1 := Lib.hid (Q1.out.ch hch (by have := HNE.out; omega)); replace Q2 := Lib.hid (Q2.out.ch hch (by have := HNE.out; omega)); replace H10 := Lib.hid (H10.out.ch hch (by have := HNE.out; omega)); replace H11 := Lib.hid (H11.out.ch hch (by have := HNE.out; omega)); replace HCH := Lib.hid (HCH.out.trans hch (fun _ _ h => by subst h; simp)); replace H9 := Lib.hid hr; clear hs hg hr hch c9)
        refine ⟨rfl, ?_⟩
        show Code.wpIn _ _ _ _ _ _ _
        clear hwp hd1 hd2 hd3
        have hwk : wrap64 ((k : Int) + 1) = ((k + 1 : Nat) : Int) := by have := HKS.out; rw [IntWalk.wrap64_in _ (by omega)]; omega
        have hwj : IntKind.i64.wrap ((k : Int) + 1) = ((k + 1 : Nat) : Int) := by have := HKS.out; rw [IntWalk.i64_in _ (by omega)]; omega
        have c10 := Row.cell H10.out 0
        simp at c10
        refine wpIn_seq ?_
        refine wpIn_regionP (by kernel_rfl) ?_
        go_wp2_with (refine wpList_put1 rfl rfl b10 rfl (.int .i64 ((k + 1 : Nat) : Int)) rfl H10.out (by kernel_rfl) rfl ?_; intro w18 hs hg hr; have hch := Ch.ofSome (S := fun g => g = b10) hg rfl; replace H3 := Lib.hid (H3.out.ch hch (by have := HNE.out; omega)); replace H5 := Lib.hid (H5.out.ch hch (by have := HNE.out; omega)); replace H6 := Lib.hid (H6.out.ch hch (by have := HNE.out; omega)); replace Q1 := Lib.hid (Q1.out.ch hch (by have := HNE.out; omega)); replace Q2 := Lib.hid (Q2.out.ch hch (by have := HNE.out; omega)); replace H9 := Lib.hid (H9.out.ch hch (by have := HNE.out; omega)); replace H11 := Lib.hid (H11.out.ch hch (by have := HNE.out; omega)); replace HCH := Lib.hid (HCH.out.trans hch (fun _ _ h => by subst h; simp)); replace H10 := Lib.hid hr; clear hs hg hr hch c10)
        refine ⟨rfl, ?_⟩
        show Code.wpIn _ _ _ _ _ _ _
        clear hwk hwj
        have hddf : ∀ D ∈ ([D0] : List Nat), D < B ∧ w18.heap[D]? = some (.deferred (some [])) := fun D hD => by
          obtain ⟨h1, h2⟩ := HDD.out D hD
          refine ⟨h1, (HCH.out.block D (Array.getElem?_eq_some_iff.1 h2).1 (fun hs => ?_)).trans h2⟩
          have hcc : ∃ cs t m, W.heap[D]? = some (.cells cs t m) := HCC.out D hs
          obtain ⟨cs, tt, mm, hcc⟩ := hcc
          rw [h2] at hcc
          cases hcc
        have hfin : BkI w key fr s b1 b2 b3 b5 b6 b9 b10 b11 B [D0] (k + 1) w18 := ⟨H3.out, H5.out, H6.out, Q1.out, Q2.out, by rw [HBN.out]; exact H9.out, H10.out, by rw [HBO.out]; exact H11.out, hddf, Ch.fresh HGR.out HCH.out (fun g hg hT => by have := HNE.out; omega)⟩
        have HFIN := Lib.hid hfin
        have HKF := Lib.hid (show KeepsFrom w111.heap.size W w18 from KeepsFrom.ch HCH.out HCC.out)
        have HKP := Lib.hid (show KeptAb w111.heap.size W w18 from KeptAb.ch HCH.out (fun g hT => by have := HNE.out; have := HBE.out; omega))
        clear hfin hddf
        have c10 := Row.cell H10.out 0
        have c5 := Row.cell H5.out 0
        simp at c10 c5
        by_cases hks1 : s < k + 1
        · have hd5 : decide ((s : Int) < ((k + 1 : Nat) : Int)) = true := decide_eq_true (by omega)
          have hd6 : decide (s < k + 1) = true := decide_eq_true hks1
          gi_wp2
          exact ⟨HKF.out, rfl, by rw [HKK.out]; exact HFIN.out, by rw [HKK.out]; exact hks1⟩
        · have hd5 : decide ((s : Int) < ((k + 1 : Nat) : Int)) = false := decide_eq_false (by omega)
          have hd6 : decide (s < k + 1) = false := decide_eq_false hks1
          gi_wp2
          exact ⟨HKF.out, HKP.out, by rw [HKK.out]; exact HFIN.out, by rw [HKK.out]; omega⟩
      · have hd1 : decide ((xn : Int) = 18446744073709551615) = true := decide_eq_true (by omega)
        have hd2 : ((xn : Int) == 18446744073709551615) = true := by simp; omega
        have hd3 : decide (xn = 18446744073709551615) = true := decide_eq_true hmx
        have hwp : IntKind.u64.wrap ((xn : Int) + 1) = 0 := by rw [hmx]; decide
        have hbo : bnO fr (k + 1) = true := decide_eq_true (by have := HXN.out; omega)
        have hbn : (bnN fr (k + 1) : Int) = 0 := by have := HXN.out; rw [bnN, if_neg (by omega)]; rfl
        have HWP := Lib.hid hwp
        have HBO := Lib.hid hbo
        have HBN := Lib.hid hbn
        clear hwp hbo hbn
        have c9 := Row.cell H9.out 0
        simp at c9
        refine wpIn_seq ?_
        refine wpIn_regionP (by kernel_rfl) ?_
        go_wp2_with (refine wpList_put1 rfl rfl b11 rfl (.bool true) rfl H11.out (by kernel_rfl) rfl ?_; intro w16 hs hg hr; have hch := Ch.ofSome (S := fun g => g = b11) hg rfl; replace H3 := Lib.hid (H3.out.ch hch (by have := HNE.out; omega)); replace H5 := Lib.hid (H5.out.ch hch (by have := HNE.out; omega)); replace H6 := Lib.hid (H6.out.ch hch (by have := HNE.out; omega)); replace Q1 := Lib.hid (Q1.out.ch hch (by have := HNE.out; omega)); replace Q2 := Lib.hid (Q2.out.ch hch (by have := HNE.out; omega)); replace H9 := Lib.hid (H9.out.ch hch (by have := HNE.out; omega)); replace H10 := Lib.hid (H10.out.ch hch (by have := HNE.out; omega)); replace HCH := Lib.hid (HCH.out.trans hch (fun _ _ h => by subst h; simp)); replace H11 := Lib.hid hr; clear hs hg hr hch c9)
        refine ⟨rfl, ?_⟩
        show Code.wpIn _ _ _ _ _ _ _
        have hwp := HWP.out
        have c9 := Row.cell H9.out 0
        simp at c9
        refine wpIn_seq ?_
        refine wpIn_regionP (by kernel_rfl) ?_
        go_wp2_with (refine wpList_put1 rfl rfl b9 rfl (.int .u64 0) rfl H9.out (by kernel_rfl) rfl ?_; intro w17 hs hg hr; have hch := Ch.ofSome (S := fun g => g = b9) hg rfl; replace H3 := Lib.hid (H3.out.ch hch (by have := HNE.out; omega)); replace H5 := Lib.hid (H5.out.ch hch (by have := HNE.out; omega)); replace H6 := Lib.hid (H6.out.ch hch (by have := HNE.out; omega)); replace Q1 := Lib.hid (Q1.out.ch hch (by have := HNE.out; omega)); replace Q2 := Lib.hid (Q2.out.ch hch (by have := HNE.out; omega)); replace H10 := Lib.hid (H10.out.ch hch (by have := HNE.out; omega)); replace H11 := Lib.hid (H11.out.ch hch (by have := HNE.out; omega)); replace HCH := Lib.hid (HCH.out.trans hch (fun _ _ h => by subst h; simp)); replace H9 := Lib.hid hr; clear hs hg hr hch c9)
        refine ⟨rfl, ?_⟩
        show Code.wpIn _ _ _ _ _ _ _
        clear hwp hd1 hd2 hd3
        have hwk : wrap64 ((k : Int) + 1) = ((k + 1 : Nat) : Int) := by have := HKS.out; rw [IntWalk.wrap64_in _ (by omega)]; omega
        have hwj : IntKind.i64.wrap ((k : Int) + 1) = ((k + 1 : Nat) : Int) := by have := HKS.out; rw [IntWalk.i64_in _ (by omega)]; omega
        have c10 := Row.cell H10.out 0
        simp at c10
        refine wpIn_seq ?_
        refine wpIn_regionP (by kernel_rfl) ?_
        go_wp2_with (refine wpList_put1 rfl rfl b10 rfl (.int .i64 ((k + 1 : Nat) : Int)) rfl H10.out (by kernel_rfl) rfl ?_; intro w18 hs hg hr; have hch := Ch.ofSome (S := fun g => g = b10) hg rfl; replace H3 := Lib.hid (H3.out.ch hch (by have := HNE.out; omega)); replace H5 := Lib.hid (H5.out.ch hch (by have := HNE.out; omega)); replace H6 := Lib.hid (H6.out.ch hch (by have := HNE.out; omega)); replace Q1 := Lib.hid (Q1.out.ch hch (by have := HNE.out; omega)); replace Q2 := Lib.hid (Q2.out.ch hch (by have := HNE.out; omega)); replace H9 := Lib.hid (H9.out.ch hch (by have := HNE.out; omega)); replace H11 := Lib.hid (H11.out.ch hch (by have := HNE.out; omega)); replace HCH := Lib.hid (HCH.out.trans hch (fun _ _ h => by subst h; simp)); replace H10 := Lib.hid hr; clear hs hg hr hch c10)
        refine ⟨rfl, ?_⟩
        show Code.wpIn _ _ _ _ _ _ _
        clear hwk hwj
        have hddf : ∀ D ∈ ([D0] : List Nat), D < B ∧ w18.heap[D]? = some (.deferred (some [])) := fun D hD => by
          obtain ⟨h1, h2⟩ := HDD.out D hD
          refine ⟨h1, (HCH.out.block D (Array.getElem?_eq_some_iff.1 h2).1 (fun hs => ?_)).trans h2⟩
          have hcc : ∃ cs t m, W.heap[D]? = some (.cells cs t m) := HCC.out D hs
          obtain ⟨cs, tt, mm, hcc⟩ := hcc
          rw [h2] at hcc
          cases hcc
        have hfin : BkI w key fr s b1 b2 b3 b5 b6 b9 b10 b11 B [D0] (k + 1) w18 := ⟨H3.out, H5.out, H6.out, Q1.out, Q2.out, by rw [HBN.out]; exact H9.out, H10.out, by rw [HBO.out]; exact H11.out, hddf, Ch.fresh HGR.out HCH.out (fun g hg hT => by have := HNE.out; omega)⟩
        have HFIN := Lib.hid hfin
        have HKF := Lib.hid (show KeepsFrom w111.heap.size W w18 from KeepsFrom.ch HCH.out HCC.out)
        have HKP := Lib.hid (show KeptAb w111.heap.size W w18 from KeptAb.ch HCH.out (fun g hT => by have := HNE.out; have := HBE.out; omega))
        clear hfin hddf
        have c10 := Row.cell H10.out 0
        have c5 := Row.cell H5.out 0
        simp at c10 c5
        by_cases hks1 : s < k + 1
        · have hd5 : decide ((s : Int) < ((k + 1 : Nat) : Int)) = true := decide_eq_true (by omega)
          have hd6 : decide (s < k + 1) = true := decide_eq_true hks1
          gi_wp2
          exact ⟨HKF.out, rfl, by rw [HKK.out]; exact HFIN.out, by rw [HKK.out]; exact hks1⟩
        · have hd5 : decide ((s : Int) < ((k + 1 : Nat) : Int)) = false := decide_eq_false (by omega)
          have hd6 : decide (s < k + 1) = false := decide_eq_false hks1
          gi_wp2
          exact ⟨HKF.out, HKP.out, by rw [HKK.out]; exact HFIN.out, by rw [HKK.out]; omega⟩
    case done1 =>
      rintro D1 xs W1 hD hS ⟨hI, hks⟩ hK
      have hov : bnO fr xs.length = true := decide_eq_true hS
      have hle : decide ((xs.length : Int) ≤ (s : Int)) = true := decide_eq_true (by omega)
      have hle2 : decide (xs.length ≤ s) = true := decide_eq_true hks
      obtain ⟨h3, h5, h6, q1, q2, h9, h10, h11, hdd, hgr⟩ := hI
      rw [hov] at h11
      have c11 := Row.cell h11 0
      have c10 := Row.cell h10 0
      have c5 := Row.cell h5 0
      simp at c10 c5 c11
      have hds : ∀ D ∈ ([D1, D0] : List Nat), W1.heap[D]? = some (.deferred (some [])) := fun D hD' => by
        rcases List.mem_cons.1 hD' with rfl | hD'
        · exact hK
        · exact (hdd D hD').2
      have hnd : (D1 :: [D0]).Nodup := List.nodup_cons.2 ⟨fun h => by
        have h1 := (hdd D1 h).1
        have h2 := HBE.out
        omega, HND.out⟩
      have H3 := Lib.hid h3
      have H5 := Lib.hid h5
      have H6 := Lib.hid h6
      have Q1 := Lib.hid q1
      have Q2 := Lib.hid q2
      have HG := Lib.hid hgr
      have HQ2L := Lib.hid q2.lt
      have HDS := Lib.hid hds
      have HND := Lib.hid hnd
      have HDW1 := Lib.hid (show w.heap.size ≤ D1 from Nat.le_trans HWB.out (HBE.out ▸ hD))
      clear h3 h5 h6 q1 q2 h9 h10 h11 hdd hgr hds hnd hK hD
      go_wp2_with fail
      clear c10 c5 c11 hle hle2 hov
      rw [rounds_succ]
      go_wp2_with (refine wpList_put1 rfl rfl b6 rfl (.bool true) rfl H6.out (by kernel_rfl) rfl ?_; intro wE hs hg hr; have HEG := Lib.hid hg; have HE := Lib.hid hr; clear hs hg hr)
      have hgE := HEG.out
      have hwE : w.grownBy wE none := grownBy_old HG.out hgE (by have := HNE0.out; omega)
      have hne : ∀ D ∈ ([D1, D0] : List Nat), D ≠ b6 := fun D hD e => by
        subst e
        have h1 := HDS.out _ hD
        have h2 : W1.heap[D]? = _ := H6.out
        rw [h2] at h1
        cases h1
      have hde := dds_far HDS.out hgE hne
      have h1 := hde D1 (by simp)
      have h0 := hde D0 (by simp)
      have hd10 : D0 ≠ D1 := fun e => by have := HND.out; simp [e] at this
      have hd10' : D1 ≠ D0 := fun e => hd10 e.symm
      refine ⟨by simp, .inl ⟨_, _, rfl, run_takeDeferred h1, ?_⟩⟩
      have h0' : (wE.putObj D1 (.deferred none)).heap[D0]? = some (.deferred (some [])) := by
        first
          | exact (World.putObj_heap_other hd10).trans h0
          | exact (World.putObj_heap_other hd10').trans h0
      refine ⟨by simp, .inl ⟨_, _, rfl, run_takeDeferred h0', ?_⟩⟩
      have hgA : wE.grownBy (wE.putObj D1 (.deferred none)) (some D1) := grownBy_putObj' wE D1 _
      have hgB := grownBy_putObj' (wE.putObj D1 (.deferred none)) D0 (.deferred none)
      have hrB : Row ((wE.putObj D1 (.deferred none)).putObj D0 (.deferred none)) b6 4 #[.bool true] := (HE.out.grownNe hgA (fun e => hne D1 (by simp) e.symm)).grownNe hgB (fun e => hne D0 (by simp) e.symm)
      have hD0 := (Array.getElem?_eq_some_iff.1 h0).1
      have hgZ : w.grownBy ((wE.putObj D1 (.deferred none)).putObj D0 (.deferred none)) none := grownBy_old (grownBy_old hwE hgA HDW1.out) hgB HDW0.out
      exact ⟨_, results_cell1 rfl _ _ b6 _ rfl hrB, rfl, hgZ⟩
    case stop1 =>
      rintro D1 c xs W1 hD hSp ⟨rfl, hI, hks⟩ hK
      have hle : decide ((xs.length : Int) ≤ (s : Int)) = false := decide_eq_false (by omega)
      have hle2 : decide (xs.length ≤ s) = false := decide_eq_false (by omega)
      obtain ⟨h3, h5, h6, q1, q2, h9, h10, h11, hdd, hgr⟩ := hI
      have c11 := Row.cell h11 0
      have c10 := Row.cell h10 0
      have c5 := Row.cell h5 0
      simp at c10 c5 c11
      have hds : ∀ D ∈ ([D1, D0] : List Nat), W1.heap[D]? = some (.deferred (some [])) := fun D hD' => by
        rcases List.mem_cons.1 hD' with rfl | hD'
        · exact hK
        · exact (hdd D hD').2
      have hnd : (D1 :: [D0]).Nodup := List.nodup_cons.2 ⟨fun h => by
        have h1 := (hdd D1 h).1
        have h2 := HBE.out
        omega, HND.out⟩
      have H3 := Lib.hid h3
      have H5 := Lib.hid h5
      have H6 := Lib.hid h6
      have Q1 := Lib.hid q1
      have Q2 := Lib.hid q2
      have HG := Lib.hid hgr
      have HQ2L := Lib.hid q2.lt
      have HDS := Lib.hid hds
      have HND := Lib.hid hnd
      have HDW1 := Lib.hid (show w.heap.size ≤ D1 from Nat.le_trans HWB.out (HBE.out ▸ hD))
      clear h3 h5 h6 q1 q2 h9 h10 h11 hdd hgr hds hnd hK hD
      gi_wp2
      go_wp2_with fail
      clear c10 c5 c11 hle hle2
      rw [rounds_succ]
      go_wp2_with (refine wpList_put1 rfl rfl b6 rfl (.bool true) rfl H6.out (by kernel_rfl) rfl ?_; intro wE hs hg hr; have HEG := Lib.hid hg; have HE := Lib.hid hr; clear hs hg hr)
      have hgE := HEG.out
      have hwE : w.grownBy wE none := grownBy_old HG.out hgE (by have := HNE0.out; omega)
      have hne : ∀ D ∈ ([D1, D0] : List Nat), D ≠ b6 := fun D hD e => by
        subst e
        have h1 := HDS.out _ hD
        have h2 : W1.heap[D]? = _ := H6.out
        rw [h2] at h1
        cases h1
      have hde := dds_far HDS.out hgE hne
      have h1 := hde D1 (by simp)
      have h0 := hde D0 (by simp)
      have hd10 : D0 ≠ D1 := fun e => by have := HND.out; simp [e] at this
      have hd10' : D1 ≠ D0 := fun e => hd10 e.symm
      refine ⟨by simp, .inl ⟨_, _, rfl, run_takeDeferred h1, ?_⟩⟩
      have h0' : (wE.putObj D1 (.deferred none)).heap[D0]? = some (.deferred (some [])) := by
        first
          | exact (World.putObj_heap_other hd10).trans h0
          | exact (World.putObj_heap_other hd10').trans h0
      refine ⟨by simp, .inl ⟨_, _, rfl, run_takeDeferred h0', ?_⟩⟩
      have hgA : wE.grownBy (wE.putObj D1 (.deferred none)) (some D1) := grownBy_putObj' wE D1 _
      have hgB := grownBy_putObj' (wE.putObj D1 (.deferred none)) D0 (.deferred none)
      have hrB : Row ((wE.putObj D1 (.deferred none)).putObj D0 (.deferred none)) b6 4 #[.bool true] := (HE.out.grownNe hgA (fun e => hne D1 (by simp) e.symm)).grownNe hgB (fun e => hne D0 (by simp) e.symm)
      have hD0 := (Array.getElem?_eq_some_iff.1 h0).1
      have hgZ : w.grownBy ((wE.putObj D1 (.deferred none)).putObj D0 (.deferred none)) none := grownBy_old (grownBy_old hwE hgA HDW1.out) hgB HDW0.out
      exact ⟨_, results_cell1 rfl _ _ b6 _ rfl hrB, rfl, hgZ⟩
  case stop0 =>
    rintro D0 c xs W0 hD hSp ⟨rfl, hI, hks⟩ hK
    have hle : decide ((xs.length : Int) ≤ (s : Int)) = false := decide_eq_false (by omega)
    have hle2 : decide (xs.length ≤ s) = false := decide_eq_false (by omega)
    obtain ⟨h3, h5, h6, q1, q2, h9, h10, h11, hdd, hgr⟩ := hI
    have c11 := Row.cell h11 0
    have c10 := Row.cell h10 0
    have c5 := Row.cell h5 0
    simp at c10 c5 c11
    have hds : ∀ D ∈ ([D0] : List Nat), W0.heap[D]? = some (.deferred (some [])) := fun D hD' => by
      rcases List.mem_cons.1 hD' with rfl | hD'
      · exact hK
      · exact (hdd D hD').2
    have hnd : (D0 :: []).Nodup := List.nodup_cons.2 ⟨fun h => by
      have h1 := (hdd D0 h).1
      have h2 := HBE.out
      omega, List.nodup_nil⟩
    have H3 := Lib.hid h3
    have H5 := Lib.hid h5
    have H6 := Lib.hid h6
    have Q1 := Lib.hid q1
    have Q2 := Lib.hid q2
    have HG := Lib.hid hgr
    have HQ2L := Lib.hid q2.lt
    have HDS := Lib.hid hds
    have HND := Lib.hid hnd
    have HDW0 := Lib.hid (show w.heap.size ≤ D0 from Nat.le_trans HWB.out (HBE.out ▸ hD))
    clear h3 h5 h6 q1 q2 h9 h10 h11 hdd hgr hds hnd hK hD
    gi_wp2
    go_wp2_with fail
    clear c10 c5 c11 hle hle2
    rw [rounds_succ]
    go_upto_region 11 with (first
      | (refine wpList_fresh1 rfl rfl rfl rfl rfl hin hinz hins rfl (.int .u64 (fr : Int)) rfl rfl rfl ?_; intro w91 hs hg hr; have H9 := Lib.hid hr; have Z9 := Lib.hid hs; replace HG := Lib.hid (grownBy_trans HG.out hg); replace H3 := Lib.hid (H3.out.grown hg); replace H5 := Lib.hid (H5.out.grown hg); replace H6 := Lib.hid (H6.out.grown hg); replace Q1 := Lib.hid (Q1.out.grown hg); replace Q2 := Lib.hid (Q2.out.grown hg); replace HDS := Lib.hid (dds_grown HDS.out hg); clear hs hg hr)
      | (refine wpList_fresh1 rfl rfl rfl rfl rfl hii hiz hisi rfl (.int .i64 0) rfl rfl rfl ?_; intro w101 hs hg hr; have H10 := Lib.hid hr; have Z10 := Lib.hid hs; replace HG := Lib.hid (grownBy_trans HG.out hg); replace H3 := Lib.hid (H3.out.grown hg); replace H5 := Lib.hid (H5.out.grown hg); replace H6 := Lib.hid (H6.out.grown hg); replace Q1 := Lib.hid (Q1.out.grown hg); replace Q2 := Lib.hid (Q2.out.grown hg); replace H9 := Lib.hid (H9.out.grown hg); replace HDS := Lib.hid (dds_grown HDS.out hg); clear hs hg hr)
      | (refine wpList_fresh1 rfl rfl rfl rfl rfl hib hibz hibs rfl (.bool false) rfl rfl rfl ?_; intro w111 hs hg hr; have H11 := Lib.hid hr; have Z11 := Lib.hid hs; replace HG := Lib.hid (grownBy_trans HG.out hg); replace H3 := Lib.hid (H3.out.grown hg); replace H5 := Lib.hid (H5.out.grown hg); replace H6 := Lib.hid (H6.out.grown hg); replace Q1 := Lib.hid (Q1.out.grown hg); replace Q2 := Lib.hid (Q2.out.grown hg); replace H9 := Lib.hid (H9.out.grown hg); replace H10 := Lib.hid (H10.out.grown hg); replace HDS := Lib.hid (dds_grown HDS.out hg); clear hs hg hr))
    go_wp2_with fail
    obtain ⟨b9, hb9⟩ : ∃ b9, b9 = W0.heap.size := ⟨_, rfl⟩
    obtain ⟨b10, hb10⟩ : ∃ b10, b10 = w91.heap.size := ⟨_, rfl⟩
    obtain ⟨b11, hb11⟩ : ∃ b11, b11 = w101.heap.size := ⟨_, rfl⟩
    obtain ⟨B, hB⟩ : ∃ B, B = w111.heap.size := ⟨_, rfl⟩
    have hne : w.heap.size ≤ b3 ∧ b3 < b5 ∧ b5 < b6 ∧ b6 < b1 ∧ b1 < b2 ∧ b2 < b9 ∧ b9 < b10 ∧ b10 < b11 ∧ b11 < B := by
      have h0 := HNE0.out
      have h1 := Z9.out
      have h2 := Z10.out
      have h3 := Z11.out
      have h4 := HQ2L.out
      omega
    have HNE := Lib.hid hne
    rw [← hb9] at H9 ⊢
    rw [← hb10] at H10 ⊢
    rw [← hb11] at H11 ⊢
    have hdd : ∀ D ∈ ([D0] : List Nat), D < B ∧ w111.heap[D]? = some (.deferred (some [])) := fun D hD => ⟨hB ▸ (Array.getElem?_eq_some_iff.1 (HDS.out D hD)).1, HDS.out D hD⟩
    have hi0 : BkI w key fr s b1 b2 b3 b5 b6 b9 b10 b11 B [D0] 0 w111 := ⟨H3.out, H5.out, H6.out, Q1.out, Q2.out, by rw [bn_zero hfr]; exact H9.out, H10.out, by rw [bo_zero hfr]; exact H11.out, hdd, HG.out⟩
    have HI0 := Lib.hid hi0
    have HWB := Lib.hid (show w.heap.size ≤ B by omega)
    have HBE := Lib.hid hB
    clear hb9 hb10 hb11 hne hdd hi0 Z9 Z10 Z11 H9 H10 H11 HDS hB
    refine (wpIn_wide (n := 3)).1 ?_
    refine wpIn_rangeOkHA (F := Fence.wide) (n := 3) rfl (by omega) (gf := 36) (lb := #[.pointer (some ⟨b1, 0, none⟩), .pointer (some ⟨b2, 0, none⟩)]) rfl trivial (enters_of Try.func36 (by kernel_rfl) rfl)
      (blocks1_in 2 b1 b2 key hkl fr hfr w111 Q1.out Q2.out) KeptAb.trans (fun W l o o' _ hl ho _ => KeptAb.put W l o o' hl ho)
      (fun t pre x _ a' W => BkA key fr t pre x a' W) (fun t pre x W0 a' W l o o' ⟨g, hr, ha, hx⟩ hl ho => ⟨g, hr.nc (grownBy_putObj' W l o') (b0 := l) (fun r e => by cases e; exact ⟨Nat.le_refl _, o, hl, ho⟩), ha, hx⟩)
      (Below.refl _ _) (fun _ => rfl)
      (fun pre W => BkI w key fr s b1 b2 b3 b5 b6 b9 b10 b11 B [D0] pre.length W ∧ pre.length ≤ s) (fun c pre W => c = .exit 2 ∧ BkI w key fr s b1 b2 b3 b5 b6 b9 b10 b11 B [D0] pre.length W ∧ s < pre.length)
      (fun _ _ _ _ hs hg hr => ⟨hs.1.nc hg HWB.out (HBE.out ▸ hr), hs.2⟩) (fun _ _ _ _ _ hs hg hr => ⟨hs.1, hs.2.1.nc hg HWB.out (HBE.out ▸ hr), hs.2.2⟩)
      ⟨HI0.out, Nat.zero_le _⟩ ?assign1 ?body1 ?done1 ?stop1
    case assign1 =>
      rintro lp pre ⟨xn, xb⟩ W0 W K hI0 hI hkc hok hK
      have hxl : xb.length = 16 := by rw [show xb = _ from hok.2.2]; exact ksB_len key _
      have HK := Lib.hid hK
      have HI := Lib.hid hI
      have HOK := Lib.hid hok
      clear hI hK hI0 hkc hok
      simp only [Bk.vals, aggB, List.zip_toArray, List.foldl_toArray', List.size_toArray, List.zip_cons_cons, List.zip_nil_right, List.foldl_cons, List.foldl_nil, List.setIfInBounds_toArray, List.set_cons_zero, List.set_cons_succ]
      refine wpIn_seq ?_
      refine wpIn_regionP (by kernel_rfl) ?_
      go_wp2_with fail
      refine ⟨rfl, ?_⟩
      refine wpIn_regionP (by kernel_rfl) ?_
      refine wpList_fresh rfl rfl rfl rfl rfl hikb hikz hiks (cellsB xb) rfl rfl (by rw [cellsB_size, hxl]; rfl) (cellsB_one _) ?_
      intro W8 hs8 hg8 hr8
      have HG8 := Lib.hid hg8
      have HR8 := Lib.hid hr8
      clear hs8 hg8 hr8
      refine ⟨rfl, ?_⟩
      exact HK.out _ _ (KeepsFrom.ch (Ch.ofNone HG8.out (fun _ => False)) (fun _ h => h.elim)) (KeptAb.of HG8.out) ⟨HI.out.1.grown HG8.out, HI.out.2⟩ ⟨W.heap.size, HR8.out, rfl, HOK.out.1, HOK.out.2.1, HOK.out.2.2⟩
    case body1 =>
      rintro lp pre ⟨xn, xb⟩ W0 a' W ⟨hI, hks⟩ ⟨g13, hr13, rfl, hxn, hlt, hxb⟩
      simp only at hr13 hxn hxb hlt
      obtain ⟨k, hk⟩ : ∃ k, k = pre.length := ⟨_, rfl⟩
      have hkk : ∀ y : Bk, (pre ++ [y]).length = k + 1 := fun y => by rw [List.length_append, List.length_singleton, hk]
      rw [← hk] at hI hks hxn
      have hxl : xb.length = 16 := by rw [hxb]; exact ksB_len key _
      have hbn : bnN fr k = xn := by rw [bnN, if_pos (by omega), hxn]
      have hbo : bnO fr k = false := decide_eq_false (by omega)
      obtain ⟨h3, h5, h6, q1, q2, h9, h10, h11, hdd, hgr⟩ := hI
      rw [hbn] at h9
      rw [hbo] at h11
      have hrb : ∀ u, Calls Try.prog 16 #[.agg (cellsB key), .int .u64 (xn : Int)] u fun e w' => e = .returned (.agg (cellsB xb)) ∧ u.grownBy w' none := fun u => by rw [hxb]; exact refBlock_n key hkl xn hlt u
      have H3 := Lib.hid h3
      have H5 := Lib.hid h5
      have H6 := Lib.hid h6
      have Q1 := Lib.hid q1
      have Q2 := Lib.hid q2
      have H9 := Lib.hid h9
      have H10 := Lib.hid h10
      have H11 := Lib.hid h11
      have HDD := Lib.hid hdd
      have HI9 := Lib.hid h9
      have HI10 := Lib.hid h10
      have HI11 := Lib.hid h11
      have HGR := Lib.hid hgr
      have HR13 := Lib.hid hr13
      have HRB := Lib.hid hrb
      have HKK := Lib.hid hkk
      have HXN := Lib.hid hxn
      clear h3 h5 h6 q1 q2 h9 h10 h11 hdd hgr hr13 hrb hkk hxn hbn hbo hk hxb
      simp only [List.setIfInBounds_toArray, List.set_cons_zero, List.set_cons_succ]
      refine wpIn_block ?_
      refine wpIn_seq ?_
      refine wpIn_seq ?_
      refine wpIn_regionS (fun u => W.grownBy u none) (by kernel_rfl) (by kernel_rfl) (grownBy_drewN W 1 none) ?_
      refine wpS_take 0 (v := .bool false) (oi := { dst := some 29, op := Op.load 4 (Operand.tmp 11), type := 4, pos := "law.go:29", after := #[], guard := none }) rfl (by kernel_rfl) (by kernel_rfl) (by kernel_rfl) (fun _ _ _ h => by cases h.1) (YS.val (by rfl) (fun u hu => by have hc := Row.cell (H11.out.grown hu) 0; simp at hc; go_simp)) ?_
      simp only [Act.put, List.setIfInBounds_toArray, List.set_cons_zero, List.set_cons_succ]
      refine wpS_take 1 (v := .bool false) (oi := { dst := some 30, op := Op.move (Operand.tmp 29), type := 4, pos := "law.go:29", after := #[{ on := 0, ground := Ground.data }], guard := none }) rfl (by kernel_rfl) (by kernel_rfl) (by kernel_rfl) (fun _ _ _ h => by cases h.1) (YS.val (by rfl) (fun _ _ => rfl)) ?_
      simp only [Act.put, List.setIfInBounds_toArray, List.set_cons_zero, List.set_cons_succ]
      refine wpS_take 2 (v := .int .u64 (xn : Int)) (oi := { dst := some 31, op := Op.move (Operand.tmp 12), type := 22, pos := "law.go:29", after := #[{ on := 1, ground := Ground.guard }], guard := some (1, false) }) rfl (by kernel_rfl) (by kernel_rfl) (by kernel_rfl) (fun _ _ _ h => by cases h.1) (YS.val (by rfl) (fun _ _ => rfl)) ?_
      simp only [Act.put, List.setIfInBounds_toArray, List.set_cons_zero, List.set_cons_succ]
      refine wpS_take 3 (v := .int .u64 (xn : Int)) (oi := { dst := some 32, op := Op.load 22 (Operand.tmp 9), type := 22, pos := "law.go:29", after := #[{ on := 1, ground := Ground.guard }], guard := some (1, false) }) rfl (by kernel_rfl) (by kernel_rfl) (by kernel_rfl) (fun _ _ _ h => by cases h.1) (YS.val (by rfl) (fun u hu => by have hc := Row.cell (H9.out.grown hu) 0; simp at hc; go_simp)) ?_
      simp only [Act.put, List.setIfInBounds_toArray, List.set_cons_zero, List.set_cons_succ]
      refine wpS_take 4 (v := .bool false) (oi := { dst := some 33, op := Op.binOp BinOp.neq 22 (Operand.tmp 31) (Operand.tmp 32) 22, type := 4, pos := "law.go:29", after := #[{ on := 2, ground := Ground.data }, { on := 3, ground := Ground.data }, { on := 1, ground := Ground.guard }], guard := some (1, false) }) rfl (by kernel_rfl) (by kernel_rfl) (by kernel_rfl) (fun _ _ _ h => by cases h.1) (YS.val (by rfl) (fun _ _ => by go_simp)) ?_
      simp only [Act.put, List.setIfInBounds_toArray, List.set_cons_zero, List.set_cons_succ]
      refine wpS_take 5 (v := .bool false) (oi := { dst := some 34, op := Op.pick (Operand.tmp 30) (Operand.const (Value.bool true)) (Operand.tmp 33), type := 4, pos := "law.go:29", after := #[{ on := 1, ground := Ground.data }, { on := 4, ground := Ground.data }], guard := none }) rfl (by kernel_rfl) (by kernel_rfl) (by kernel_rfl) (fun _ _ _ h => by cases h.1) (YS.val (by rfl) (fun _ _ => by go_simp)) ?_
      simp only [Act.put, List.setIfInBounds_toArray, List.set_cons_zero, List.set_cons_succ]
      refine wpS_take 6 (v := .bool false) (oi := { dst := some 35, op := Op.move (Operand.tmp 34), type := 4, pos := "law.go:29", after := #[{ on := 5, ground := Ground.data }, { on := 1, ground := Ground.chain }], guard := none }) rfl (by kernel_rfl) (by kernel_rfl) (by kernel_rfl) (fun _ _ _ h => by cases h.1) (YS.val (by rfl) (fun _ _ => rfl)) ?_
      simp only [Act.put, List.setIfInBounds_toArray, List.set_cons_zero, List.set_cons_succ]
      refine wpS_take 7 (v := .agg (cellsB xb)) (oi := { dst := some 36, op := Op.load 24 (Operand.tmp 13), type := 24, pos := "law.go:29", after := #[{ on := 6, ground := Ground.guard }], guard := some (6, false) }) rfl (by kernel_rfl) (by kernel_rfl) (by kernel_rfl) (fun _ _ _ h => by cases h.1) (YS.val (by rfl) (fun u hu => run_load_op u _ 24 (.tmp 13) rfl g13 rfl 24 (cellsB xb) (HR13.out.grown hu) Try.underlying24 rfl (by rw [cellsB_size, hxl]; kernel_rfl))) ?_
      simp only [Act.put, List.setIfInBounds_toArray, List.set_cons_zero, List.set_cons_succ]
      refine wpS_take 8 (v := .agg (cellsB key)) (oi := { dst := some 37, op := Op.load 27 (Operand.tmp 3), type := 27, pos := "law.go:29", after := #[{ on := 6, ground := Ground.guard }], guard := some (6, false) }) rfl (by kernel_rfl) (by kernel_rfl) (by kernel_rfl) (fun _ _ _ h => by cases h.1) (YS.val (by rfl) (fun u hu => run_load_op u _ 27 (.tmp 3) rfl b3 rfl 27 (cellsB key) (H3.out.grown hu) Try.underlying27 rfl (by rw [cellsB_size, hkl]; kernel_rfl))) ?_
      simp only [Act.put, List.setIfInBounds_toArray, List.set_cons_zero, List.set_cons_succ]
      refine wpS_take 9 (v := .int .u64 (xn : Int)) (oi := { dst := some 38, op := Op.load 22 (Operand.tmp 9), type := 22, pos := "law.go:29", after := #[{ on := 6, ground := Ground.guard }], guard := some (6, false) }) rfl (by kernel_rfl) (by kernel_rfl) (by kernel_rfl) (fun _ _ _ h => by cases h.1) (YS.val (by rfl) (fun u hu => by have hc := Row.cell (H9.out.grown hu) 0; simp at hc; go_simp)) ?_
      simp only [Act.put, List.setIfInBounds_toArray, List.set_cons_zero, List.set_cons_succ]
      refine wpS_take 10 (v := .agg (cellsB xb)) (oi := { dst := some 39, op := Op.call { callee := Callee.value (Operand.func 16), args := #[Operand.tmp 37, Operand.tmp 38], argTypes := #[27, 22] }, type := 24, pos := "law.go:29", after := #[{ on := 8, ground := Ground.data }, { on := 9, ground := Ground.data }, { on := 6, ground := Ground.chain }, { on := 6, ground := Ground.guard }], guard := some (6, false) }) rfl (by kernel_rfl) (by kernel_rfl) (by kernel_rfl) (fun _ _ _ h => by cases h.1) (YS.grow (by rfl) (fun _ => by go_simp) (fun _ _ h g => grownBy_trans h g) (fun u => HRB.out u)) ?_
      simp only [Act.put, List.setIfInBounds_toArray, List.set_cons_zero, List.set_cons_succ]
      refine wpS_take 11 (v := .bool false) (oi := { dst := some 40, op := Op.binOp BinOp.neq 24 (Operand.tmp 36) (Operand.tmp 39) 24, type := 4, pos := "law.go:29", after := #[{ on := 7, ground := Ground.data }, { on := 10, ground := Ground.data }, { on := 6, ground := Ground.guard }], guard := some (6, false) }) rfl (by kernel_rfl) (by kernel_rfl) (by kernel_rfl) (fun _ _ _ h => by cases h.1) (YS.val (by rfl) (fun u _ => run_neq_op u _ hm rfl (cellsB xb) (cellsB xb) rfl rfl (neq_block xb hxl u))) ?_
      simp only [Act.put, List.setIfInBounds_toArray, List.set_cons_zero, List.set_cons_succ]
      refine wpS_take 12 (v := .bool false) (oi := { dst := some 41, op := Op.pick (Operand.tmp 35) (Operand.const (Value.bool true)) (Operand.tmp 40), type := 4, pos := "law.go:29", after := #[{ on := 6, ground := Ground.data }, { on := 11, ground := Ground.data }], guard := none }) rfl (by kernel_rfl) (by kernel_rfl) (by kernel_rfl) (fun _ _ _ h => by cases h.1) (YS.val (by rfl) (fun _ _ => by go_simp)) ?_
      simp only [Act.put, List.setIfInBounds_toArray, List.set_cons_zero, List.set_cons_succ]
      refine wpS_done (by kernel_rfl) (fun w14 hg14 => ?_) _
      refine ⟨rfl, ?_⟩
      replace H3 := Lib.hid (H3.out.grown hg14)
      replace H5 := Lib.hid (H5.out.grown hg14)
      replace H6 := Lib.hid (H6.out.grown hg14)
      replace Q1 := Lib.hid (Q1.out.grown hg14)
      replace Q2 := Lib.hid (Q2.out.grown hg14)
      replace H9 := Lib.hid (H9.out.grown hg14)
      replace H10 := Lib.hid (H10.out.grown hg14)
      replace H11 := Lib.hid (H11.out.grown hg14)
      have HCH := Lib.hid (Ch.ofNone hg14 (fun g => g = b9 ∨ g = b10 ∨ g = b11))
      have HLT := Lib.hid hlt
      have HKS := Lib.hid hks
      have hccx : ∀ g, (g = b9 ∨ g = b10 ∨ g = b11) → ∃ cs t m, W.heap[g]? = some (.cells cs t m) := fun g hs => by
        rcases hs with rfl | rfl | rfl
        · exact ⟨_, _, _, HI9.out⟩
        · exact ⟨_, _, _, HI10.out⟩
        · exact ⟨_, _, _, HI11.out⟩
      clear hg14 hlt hks HR13 HRB
      show Exit.then _ _ _ _ _
      gi_step
      gi_step
      gi_step
      gi_step
      gi_step
      have HCC := Lib.hid hccx
      clear hccx
      rcases Nat.decEq xn 18446744073709551615 with hmx | hmx
      · have hd1 : decide ((xn : Int) = 18446744073709551615) = false := decide_eq_false (by omega)
        have hd2 : ((xn : Int) == 18446744073709551615) = false := by simp; omega
        have hd3 : decide (xn = 18446744073709551615) = false := decide_eq_false hmx
        have hbo : bnO fr (k + 1) = false := decide_eq_false (by have := HXN.out; have := HLT.out; omega)
        have hbn : (bnN fr (k + 1) : Int) = ((xn + 1 : Nat) : Int) := by have := HXN.out; have := HLT.out; rw [bnN, if_pos (by omega)]; omega
        have hwp : IntKind.u64.wrap ((xn : Int) + 1) = ((xn + 1 : Nat) : Int) := by have := HLT.out; rw [IntWalk.u64_in _ (by omega)]; omega
        have HWP := Lib.hid hwp
        have HBO := Lib.hid hbo
        have HBN := Lib.hid hbn
        clear hwp hbo hbn
        have c9 := Row.cell H9.out 0
        simp at c9
        refine wpIn_seq ?_
        refine wpIn_regionP (by kernel_rfl) ?_
        go_wp2_with (refine wpList_put1 rfl rfl b11 rfl (.bool false) rfl H11.out (by kernel_rfl) rfl ?_; intro w16 hs hg hr; have hch := Ch.ofSome (S := fun g => g = b11) hg rfl; replace H3 := Lib.hid (H3.out.ch hch (by have := HNE.out; omega)); replace H5 := Lib.hid (H5.out.ch hch (by have := HNE.out; omega)); replace H6 := Lib.hid (H6.out.ch hch (by have := HNE.out; omega)); replace Q1 := Lib.hid (Q1.out.ch hch (by have := HNE.out; omega)); replace Q2 := Lib.hid (Q2.out.ch hch (by have := HNE.out; omega)); replace H9 := Lib.hid (H9.out.ch hch (by have := HNE.out; omega)); replace H10 := Lib.hid (H10.out.ch hch (by have := HNE.out; omega)); replace HCH := Lib.hid (HCH.out.trans hch (fun _ _ h => by subst h; simp)); replace H11 := Lib.hid hr; clear hs hg hr hch c9)
        refine ⟨rfl, ?_⟩
        show Code.wpIn _ _ _ _ _ _ _
        have hwp := HWP.out
        have c9 := Row.cell H9.out 0
        simp at c9
        refine wpIn_seq ?_
        refine wpIn_regionP (by kernel_rfl) ?_
        go_wp2_with (refine wpList_put1 rfl rfl b9 rfl (.int .u64 ((xn + 1 : Nat) : Int)) rfl H9.out (by kernel_rfl) rfl ?_; intro w17 hs hg hr; have hch := Ch.ofSome (S := fun g => g = b9) hg rfl; replace H3 := Lib.hid (H3.out.ch hch (by have := HNE.out; omega)); replace H5 := Lib.hid (H5.out.ch hch (by have := HNE.out; omega)); replace H6 := Lib.hid (H6.out.ch hch (by have := HNE.out; omega)); replace Q1 := Lib.hid (Q1.out.ch hch (by have := HNE.out; omega)); replace Q2 := Lib.hid (Q2.out.ch hch (by have := HNE.out; omega)); replace H10 := Lib.hid (H10.out.ch hch (by have := HNE.out; omega)); replace H11 := Lib.hid (H11.out.ch hch (by have := HNE.out; omega)); replace HCH := Lib.hid (HCH.out.trans hch (fun _ _ h => by subst h; simp)); replace H9 := Lib.hid hr; clear hs hg hr hch c9)
        refine ⟨rfl, ?_⟩
        show Code.wpIn _ _ _ _ _ _ _
        clear hwp hd1 hd2 hd3
        have hwk : wrap64 ((k : Int) + 1) = ((k + 1 : Nat) : Int) := by have := HKS.out; rw [IntWalk.wrap64_in _ (by omega)]; omega
        have hwj : IntKind.i64.wrap ((k : Int) + 1) = ((k + 1 : Nat) : Int) := by have := HKS.out; rw [IntWalk.i64_in _ (by omega)]; omega
        have c10 := Row.cell H10.out 0
        simp at c10
        refine wpIn_seq ?_
        refine wpIn_regionP (by kernel_rfl) ?_
        go_wp2_with (refine wpList_put1 rfl rfl b10 rfl (.int .i64 ((k + 1 : Nat) : Int)) rfl H10.out (by kernel_rfl) rfl ?_; intro w18 hs hg hr; have hch := Ch.ofSome (S := fun g => g = b10) hg rfl; replace H3 := Lib.hid (H3.out.ch hch (by have := HNE.out; omega)); replace H5 := Lib.hid (H5.out.ch hch (by have := HNE.out; omega)); replace H6 := Lib.hid (H6.out.ch hch (by have := HNE.out; omega)); replace Q1 := Lib.hid (Q1.out.ch hch (by have := HNE.out; omega)); replace Q2 := Lib.hid (Q2.out.ch hch (by have := HNE.out; omega)); replace H9 := Lib.hid (H9.out.ch hch (by have := HNE.out; omega)); replace H11 := Lib.hid (H11.out.ch hch (by have := HNE.out; omega)); replace HCH := Lib.hid (HCH.out.trans hch (fun _ _ h => by subst h; simp)); replace H10 := Lib.hid hr; clear hs hg hr hch c10)
        refine ⟨rfl, ?_⟩
        show Code.wpIn _ _ _ _ _ _ _
        clear hwk hwj
        have hddf : ∀ D ∈ ([D0] : List Nat), D < B ∧ w18.heap[D]? = some (.deferred (some [])) := fun D hD => by
          obtain ⟨h1, h2⟩ := HDD.out D hD
          refine ⟨h1, (HCH.out.block D (Array.getElem?_eq_some_iff.1 h2).1 (fun hs => ?_)).trans h2⟩
          have hcc : ∃ cs t m, W.heap[D]? = some (.cells cs t m) := HCC.out D hs
          obtain ⟨cs, tt, mm, hcc⟩ := hcc
          rw [h2] at hcc
          cases hcc
        have hfin : BkI w key fr s b1 b2 b3 b5 b6 b9 b10 b11 B [D0] (k + 1) w18 := ⟨H3.out, H5.out, H6.out, Q1.out, Q2.out, by rw [HBN.out]; exact H9.out, H10.out, by rw [HBO.out]; exact H11.out, hddf, Ch.fresh HGR.out HCH.out (fun g hg hT => by have := HNE.out; omega)⟩
        have HFIN := Lib.hid hfin
        have HKF := Lib.hid (show KeepsFrom w111.heap.size W w18 from KeepsFrom.ch HCH.out HCC.out)
        have HKP := Lib.hid (show KeptAb w111.heap.size W w18 from KeptAb.ch HCH.out (fun g hT => by have := HNE.out; have := HBE.out; omega))
        clear hfin hddf
        have c10 := Row.cell H10.out 0
        have c5 := Row.cell H5.out 0
        simp at c10 c5
        by_cases hks1 : s < k + 1
        · have hd5 : decide ((s : Int) < ((k + 1 : Nat) : Int)) = true := decide_eq_true (by omega)
          have hd6 : decide (s < k + 1) = true := decide_eq_true hks1
          gi_wp2
          exact ⟨HKF.out, rfl, by rw [HKK.out]; exact HFIN.out, by rw [HKK.out]; exact hks1⟩
        · have hd5 : decide ((s : Int) < ((k + 1 : Nat) : Int)) = false := decide_eq_false (by omega)
          have hd6 : decide (s < k + 1) = false := decide_eq_false hks1
          gi_wp2
          exact ⟨HKF.out, HKP.out, by rw [HKK.out]; exact HFIN.out, by rw [HKK.out]; omega⟩
      · have hd1 : decide ((xn : Int) = 18446744073709551615) = true := decide_eq_true (by omega)
        have hd2 : ((xn : Int) == 18446744073709551615) = true := by simp; omega
        have hd3 : decide (xn = 18446744073709551615) = true := decide_eq_true hmx
        have hwp : IntKind.u64.wrap ((xn : Int) + 1) = 0 := by rw [hmx]; decide
        have hbo : bnO fr (k + 1) = true := decide_eq_true (by have := HXN.out; omega)
        have hbn : (bnN fr (k + 1) : Int) = 0 := by have := HXN.out; rw [bnN, if_neg (by omega)]; rfl
        have HWP := Lib.hid hwp
        have HBO := Lib.hid hbo
        have HBN := Lib.hid hbn
        clear hwp hbo hbn
        have c9 := Row.cell H9.out 0
        simp at c9
        refine wpIn_seq ?_
        refine wpIn_regionP (by kernel_rfl) ?_
        go_wp2_with (refine wpList_put1 rfl rfl b11 rfl (.bool true) rfl H11.out (by kernel_rfl) rfl ?_; intro w16 hs hg hr; have hch := Ch.ofSome (S := fun g => g = b11) hg rfl; replace H3 := Lib.hid (H3.out.ch hch (by have := HNE.out; omega)); replace H5 := Lib.hid (H5.out.ch hch (by have := HNE.out; omega)); replace H6 := Lib.hid (H6.out.ch hch (by have := HNE.out; omega)); replace Q1 := Lib.hid (Q1.out.ch hch (by have := HNE.out; omega)); replace Q2 := Lib.hid (Q2.out.ch hch (by have := HNE.out; omega)); replace H9 := Lib.hid (H9.out.ch hch (by have := HNE.out; omega)); replace H10 := Lib.hid (H10.out.ch hch (by have := HNE.out; omega)); replace HCH := Lib.hid (HCH.out.trans hch (fun _ _ h => by subst h; simp)); replace H11 := Lib.hid hr; clear hs hg hr hch c9)
        refine ⟨rfl, ?_⟩
        show Code.wpIn _ _ _ _ _ _ _
        have hwp := HWP.out
        have c9 := Row.cell H9.out 0
        simp at c9
        refine wpIn_seq ?_
        refine wpIn_regionP (by kernel_rfl) ?_
        go_wp2_with (refine wpList_put1 rfl rfl b9 rfl (.int .u64 0) rfl H9.out (by kernel_rfl) rfl ?_; intro w17 hs hg hr; have hch := Ch.ofSome (S := fun g => g = b9) hg rfl; replace H3 := Lib.hid (H3.out.ch hch (by have := HNE.out; omega)); replace H5 := Lib.hid (H5.out.ch hch (by have := HNE.out; omega)); replace H6 := Lib.hid (H6.out.ch hch (by have := HNE.out; omega)); replace Q1 := Lib.hid (Q1.out.ch hch (by have := HNE.out; omega)); replace Q2 := Lib.hid (Q2.out.ch hch (by have := HNE.out; omega)); replace H10 := Lib.hid (H10.out.ch hch (by have := HNE.out; omega)); replace H11 := Lib.hid (H11.out.ch hch (by have := HNE.out; omega)); replace HCH := Lib.hid (HCH.out.trans hch (fun _ _ h => by subst h; simp)); replace H9 := Lib.hid hr; clear hs hg hr hch c9)
        refine ⟨rfl, ?_⟩
        show Code.wpIn _ _ _ _ _ _ _
        clear hwp hd1 hd2 hd3
        have hwk : wrap64 ((k : Int) + 1) = ((k + 1 : Nat) : Int) := by have := HKS.out; rw [IntWalk.wrap64_in _ (by omega)]; omega
        have hwj : IntKind.i64.wrap ((k : Int) + 1) = ((k + 1 : Nat) : Int) := by have := HKS.out; rw [IntWalk.i64_in _ (by omega)]; omega
        have c10 := Row.cell H10.out 0
        simp at c10
        refine wpIn_seq ?_
        refine wpIn_regionP (by kernel_rfl) ?_
        go_wp2_with (refine wpList_put1 rfl rfl b10 rfl (.int .i64 ((k + 1 : Nat) : Int)) rfl H10.out (by kernel_rfl) rfl ?_; intro w18 hs hg hr; have hch := Ch.ofSome (S := fun g => g = b10) hg rfl; replace H3 := Lib.hid (H3.out.ch hch (by have := HNE.out; omega)); replace H5 := Lib.hid (H5.out.ch hch (by have := HNE.out; omega)); replace H6 := Lib.hid (H6.out.ch hch (by have := HNE.out; omega)); replace Q1 := Lib.hid (Q1.out.ch hch (by have := HNE.out; omega)); replace Q2 := Lib.hid (Q2.out.ch hch (by have := HNE.out; omega)); replace H9 := Lib.hid (H9.out.ch hch (by have := HNE.out; omega)); replace H11 := Lib.hid (H11.out.ch hch (by have := HNE.out; omega)); replace HCH := Lib.hid (HCH.out.trans hch (fun _ _ h => by subst h; simp)); replace H10 := Lib.hid hr; clear hs hg hr hch c10)
        refine ⟨rfl, ?_⟩
        show Code.wpIn _ _ _ _ _ _ _
        clear hwk hwj
        have hddf : ∀ D ∈ ([D0] : List Nat), D < B ∧ w18.heap[D]? = some (.deferred (some [])) := fun D hD => by
          obtain ⟨h1, h2⟩ := HDD.out D hD
          refine ⟨h1, (HCH.out.block D (Array.getElem?_eq_some_iff.1 h2).1 (fun hs => ?_)).trans h2⟩
          have hcc : ∃ cs t m, W.heap[D]? = some (.cells cs t m) := HCC.out D hs
          obtain ⟨cs, tt, mm, hcc⟩ := hcc
          rw [h2] at hcc
          cases hcc
        have hfin : BkI w key fr s b1 b2 b3 b5 b6 b9 b10 b11 B [D0] (k + 1) w18 := ⟨H3.out, H5.out, H6.out, Q1.out, Q2.out, by rw [HBN.out]; exact H9.out, H10.out, by rw [HBO.out]; exact H11.out, hddf, Ch.fresh HGR.out HCH.out (fun g hg hT => by have := HNE.out; omega)⟩
        have HFIN := Lib.hid hfin
        have HKF := Lib.hid (show KeepsFrom w111.heap.size W w18 from KeepsFrom.ch HCH.out HCC.out)
        have HKP := Lib.hid (show KeptAb w111.heap.size W w18 from KeptAb.ch HCH.out (fun g hT => by have := HNE.out; have := HBE.out; omega))
        clear hfin hddf
        have c10 := Row.cell H10.out 0
        have c5 := Row.cell H5.out 0
        simp at c10 c5
        by_cases hks1 : s < k + 1
        · have hd5 : decide ((s : Int) < ((k + 1 : Nat) : Int)) = true := decide_eq_true (by omega)
          have hd6 : decide (s < k + 1) = true := decide_eq_true hks1
          gi_wp2
          exact ⟨HKF.out, rfl, by rw [HKK.out]; exact HFIN.out, by rw [HKK.out]; exact hks1⟩
        · have hd5 : decide ((s : Int) < ((k + 1 : Nat) : Int)) = false := decide_eq_false (by omega)
          have hd6 : decide (s < k + 1) = false := decide_eq_false hks1
          gi_wp2
          exact ⟨HKF.out, HKP.out, by rw [HKK.out]; exact HFIN.out, by rw [HKK.out]; omega⟩
    case done1 =>
      rintro D1 xs W1 hD hS ⟨hI, hks⟩ hK
      have hov : bnO fr xs.length = true := decide_eq_true hS
      have hle : decide ((xs.length : Int) ≤ (s : Int)) = true := decide_eq_true (by omega)
      have hle2 : decide (xs.length ≤ s) = true := decide_eq_true hks
      obtain ⟨h3, h5, h6, q1, q2, h9, h10, h11, hdd, hgr⟩ := hI
      rw [hov] at h11
      have c11 := Row.cell h11 0
      have c10 := Row.cell h10 0
      have c5 := Row.cell h5 0
      simp at c10 c5 c11
      have hds : ∀ D ∈ ([D1, D0] : List Nat), W1.heap[D]? = some (.deferred (some [])) := fun D hD' => by
        rcases List.mem_cons.1 hD' with rfl | hD'
        · exact hK
        · exact (hdd D hD').2
      have hnd : (D1 :: [D0]).Nodup := List.nodup_cons.2 ⟨fun h => by
        have h1 := (hdd D1 h).1
        have h2 := HBE.out
        omega, HND.out⟩
      have H3 := Lib.hid h3
      have H5 := Lib.hid h5
      have H6 := Lib.hid h6
      have Q1 := Lib.hid q1
      have Q2 := Lib.hid q2
      have HG := Lib.hid hgr
      have HQ2L := Lib.hid q2.lt
      have HDS := Lib.hid hds
      have HND := Lib.hid hnd
      have HDW1 := Lib.hid (show w.heap.size ≤ D1 from Nat.le_trans HWB.out (HBE.out ▸ hD))
      clear h3 h5 h6 q1 q2 h9 h10 h11 hdd hgr hds hnd hK hD
      go_wp2_with fail
      clear c10 c5 c11 hle hle2 hov
      rw [rounds_succ]
      go_wp2_with (refine wpList_put1 rfl rfl b6 rfl (.bool true) rfl H6.out (by kernel_rfl) rfl ?_; intro wE hs hg hr; have HEG := Lib.hid hg; have HE := Lib.hid hr; clear hs hg hr)
      have hgE := HEG.out
      have hwE : w.grownBy wE none := grownBy_old HG.out hgE (by have := HNE0.out; omega)
      have hne : ∀ D ∈ ([D1, D0] : List Nat), D ≠ b6 := fun D hD e => by
        subst e
        have h1 := HDS.out _ hD
        have h2 : W1.heap[D]? = _ := H6.out
        rw [h2] at h1
        cases h1
      have hde := dds_far HDS.out hgE hne
      have h1 := hde D1 (by simp)
      have h0 := hde D0 (by simp)
      have hd10 : D0 ≠ D1 := fun e => by have := HND.out; simp [e] at this
      have hd10' : D1 ≠ D0 := fun e => hd10 e.symm
      refine ⟨by simp, .inl ⟨_, _, rfl, run_takeDeferred h1, ?_⟩⟩
      have h0' : (wE.putObj D1 (.deferred none)).heap[D0]? = some (.deferred (some [])) := by
        first
          | exact (World.putObj_heap_other hd10).trans h0
          | exact (World.putObj_heap_other hd10').trans h0
      refine ⟨by simp, .inl ⟨_, _, rfl, run_takeDeferred h0', ?_⟩⟩
      have hgA : wE.grownBy (wE.putObj D1 (.deferred none)) (some D1) := grownBy_putObj' wE D1 _
      have hgB := grownBy_putObj' (wE.putObj D1 (.deferred none)) D0 (.deferred none)
      have hrB : Row ((wE.putObj D1 (.deferred none)).putObj D0 (.deferred none)) b6 4 #[.bool true] := (HE.out.grownNe hgA (fun e => hne D1 (by simp) e.symm)).grownNe hgB (fun e => hne D0 (by simp) e.symm)
      have hD0 := (Array.getElem?_eq_some_iff.1 h0).1
      have hgZ : w.grownBy ((wE.putObj D1 (.deferred none)).putObj D0 (.deferred none)) none := grownBy_old (grownBy_old hwE hgA HDW1.out) hgB HDW0.out
      exact ⟨_, results_cell1 rfl _ _ b6 _ rfl hrB, rfl, hgZ⟩
    case stop1 =>
      rintro D1 c xs W1 hD hSp ⟨rfl, hI, hks⟩ hK
      have hle : decide ((xs.length : Int) ≤ (s : Int)) = false := decide_eq_false (by omega)
      have hle2 : decide (xs.length ≤ s) = false := decide_eq_false (by omega)
      obtain ⟨h3, h5, h6, q1, q2, h9, h10, h11, hdd, hgr⟩ := hI
      have c11 := Row.cell h11 0
      have c10 := Row.cell h10 0
      have c5 := Row.cell h5 0
      simp at c10 c5 c11
      have hds : ∀ D ∈ ([D1, D0] : List Nat), W1.heap[D]? = some (.deferred (some [])) := fun D hD' => by
        rcases List.mem_cons.1 hD' with rfl | hD'
        · exact hK
        · exact (hdd D hD').2
      have hnd : (D1 :: [D0]).Nodup := List.nodup_cons.2 ⟨fun h => by
        have h1 := (hdd D1 h).1
        have h2 := HBE.out
        omega, HND.out⟩
      have H3 := Lib.hid h3
      have H5 := Lib.hid h5
      have H6 := Lib.hid h6
      have Q1 := Lib.hid q1
      have Q2 := Lib.hid q2
      have HG := Lib.hid hgr
      have HQ2L := Lib.hid q2.lt
      have HDS := Lib.hid hds
      have HND := Lib.hid hnd
      have HDW1 := Lib.hid (show w.heap.size ≤ D1 from Nat.le_trans HWB.out (HBE.out ▸ hD))
      clear h3 h5 h6 q1 q2 h9 h10 h11 hdd hgr hds hnd hK hD
      gi_wp2
      go_wp2_with fail
      clear c10 c5 c11 hle hle2
      rw [rounds_succ]
      go_wp2_with (refine wpList_put1 rfl rfl b6 rfl (.bool true) rfl H6.out (by kernel_rfl) rfl ?_; intro wE hs hg hr; have HEG := Lib.hid hg; have HE := Lib.hid hr; clear hs hg hr)
      have hgE := HEG.out
      have hwE : w.grownBy wE none := grownBy_old HG.out hgE (by have := HNE0.out; omega)
      have hne : ∀ D ∈ ([D1, D0] : List Nat), D ≠ b6 := fun D hD e => by
        subst e
        have h1 := HDS.out _ hD
        have h2 : W1.heap[D]? = _ := H6.out
        rw [h2] at h1
        cases h1
      have hde := dds_far HDS.out hgE hne
      have h1 := hde D1 (by simp)
      have h0 := hde D0 (by simp)
      have hd10 : D0 ≠ D1 := fun e => by have := HND.out; simp [e] at this
      have hd10' : D1 ≠ D0 := fun e => hd10 e.symm
      refine ⟨by simp, .inl ⟨_, _, rfl, run_takeDeferred h1, ?_⟩⟩
      have h0' : (wE.putObj D1 (.deferred none)).heap[D0]? = some (.deferred (some [])) := by
        first
          | exact (World.putObj_heap_other hd10).trans h0
          | exact (World.putObj_heap_other hd10').trans h0
      refine ⟨by simp, .inl ⟨_, _, rfl, run_takeDeferred h0', ?_⟩⟩
      have hgA : wE.grownBy (wE.putObj D1 (.deferred none)) (some D1) := grownBy_putObj' wE D1 _
      have hgB := grownBy_putObj' (wE.putObj D1 (.deferred none)) D0 (.deferred none)
      have hrB : Row ((wE.putObj D1 (.deferred none)).putObj D0 (.deferred none)) b6 4 #[.bool true] := (HE.out.grownNe hgA (fun e => hne D1 (by simp) e.symm)).grownNe hgB (fun e => hne D0 (by simp) e.symm)
      have hD0 := (Array.getElem?_eq_some_iff.1 h0).1
      have hgZ : w.grownBy ((wE.putObj D1 (.deferred none)).putObj D0 (.deferred none)) none := grownBy_old (grownBy_old hwE hgA HDW1.out) hgB HDW0.out
      exact ⟨_, results_cell1 rfl _ _ b6 _ rfl hrB, rfl, hgZ⟩

end Go.Proofs.Ytblgdfamomlklaa
