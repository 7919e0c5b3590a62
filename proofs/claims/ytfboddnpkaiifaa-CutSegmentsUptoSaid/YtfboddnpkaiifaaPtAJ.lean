/- Helpers and contracts of the proofs over this seat: Gone, CutSegsL. Each states what a function of the program answers, or is plain Lean; its conditions stand in each statement. -/
import Derived.Test.YtfboddnpkaiifaaPtAA
import Derived.Test.YtfboddnpkaiifaaPtAB
import Derived.Test.YtfboddnpkaiifaaPtAC
import Derived.Test.YtfboddnpkaiifaaPtAD
import Derived.Test.YtfboddnpkaiifaaPtAF
import Derived.Test.YtfboddnpkaiifaaPtAG
import Derived.Test.YtfboddnpkaiifaaPtAH
import Derived.Test.YtfboddnpkaiifaaPtAI
set_option linter.unusedVariables false
/- gone: goes through segments up to so many. Printed by gens/gone.py. -/
namespace Go.Proofs.Ytfboddnpkaiifaa
open Go.RowKit Go.Shelf
attribute [local go_sem] Oper.semAt_some

theorem sgs_fits {s : Sh} {l : List UInt8} {pre : List Pce} {x : Pce} (h : ∃ r, pre.map Pce.pr ++ x.pr :: r = sgs s l) : fits s ∧ (l.length : Int) = s.size := by
  obtain ⟨r, hr⟩ := h
  by_cases h : fits s ∧ (l.length : Int) = s.size
  · exact h
  · unfold sgs at hr
    rw [if_neg h] at hr
    simp at hr
theorem news_one {w : World} {b : Nat} {t : TypeId} {v : Value} (h : Row w b t #[v]) : ∀ j u, ([v] : List Value)[j]? = some u → w.cell? ((⟨b, 0, none⟩ : Addr).add j) = some u := by
  intro j u hu
  have h2 : ((⟨b, 0, none⟩ : Addr).add j) = ⟨b, j, none⟩ := by unfold Addr.add; split <;> simp_all
  rw [h2, Row.cell h]
  simpa using hu
/-- an operation of a round, told by its own text, by its run -/
theorem wpListIn_opR {l n : Nat} {P : Program} {ops : Array Oper} {Q : Exit → Act → World → Prop} {o : Oper} {rest : List Oper} {a : Act} {w w1 : World} {v : Value} (op : Op) (_ho : o.op = op)
    (hw : Region.wanted o (yielded ops a.tmps) = true) (hd : ∀ c, o.op ≠ .defer c) (hr : (execOp a.eval o).run P w = .ok (.value v) w1) (h : wpListIn (Fence.wide.inRound l) n P ops Q rest (a.put o.dst v) w1) : wpListIn (Fence.wide.inRound l) n P ops Q (o :: rest) a w :=
  wpListIn_valR hw hd hr h
/-- one list more, made since the others -/
theorem LIs.pushD {w w1 w2 : World} {base : Nat} {a : Option Addr} {n c : Nat} {bs : List (List UInt8)} {L : List Sl} (h : LIs w base a n c bs L) (hb : base ≤ w.heap.size) (h' : LIs w1 base a n c bs L)
    {a' : Option Addr} {n' c' : Nat} {b : List UInt8} (ho : BOwn w1 w.heap.size a' n' c' b) {a2 : Option Addr} {c2 : Nat}
    (hs : Own w2 base 22 1 a2 (n + 1) c2 (L.map Sl.val ++ [.slice a' n' c'])) (hgr : GrewP w1 w2 a c a2 c2) : LIs w2 base a2 (n + 1) c2 (bs ++ [b]) (L ++ [⟨a', n', c'⟩]) := by
  have hK := h'
  obtain ⟨h1, h2, h3, h4⟩ := h
  have h1' : SOwn w1 base a n c L := h'.outer
  have hin : ∀ i (h : i < L.length) (h' : i < bs.length), BOwn w2 base (L[i]).a (L[i]).n (L[i]).c bs[i] := fun i h h' => Own.grewOther (hK.inner i h h') h1' hgr (by decide)
  have hnew : BOwn w2 base a' n' c' b := Own.grewOther (ho.mono hb) h1' hgr (by decide)
  refine ⟨?_, by simp [h2], ?_, ?_⟩
  · unfold SOwn; rw [List.map_append]; exact hs
  · intro i hi hi'
    by_cases e : i < L.length
    · have e' : i < bs.length := by omega
      rw [List.getElem_append_left e, List.getElem_append_left e']
      exact hin i e e'
    · simp only [List.length_append, List.length_singleton] at hi
      obtain rfl : i = L.length := by omega
      have e2 : (L ++ [⟨a', n', c'⟩])[L.length] = (⟨a', n', c'⟩ : Sl) := by simp
      have e3 : (bs ++ [b])[L.length] = b := by simp [h2]
      rw [e2, e3]
      exact hnew
  · have old : ∀ i (hi : i < L.length) g, (L[i]).blk = some g → g < w.heap.size := by
      intro i hi g hgb
      have hbo := h3 i hi (by omega)
      obtain ⟨hc, ha⟩ := hbo.blk hgb
      obtain ⟨g', ha', _, hlt⟩ := Own.block hbo hc
      rw [ha] at ha'
      obtain rfl : g = g' := by simpa using ha'
      exact hlt
    have new : ∀ g, (⟨a', n', c'⟩ : Sl).blk = some g → w.heap.size ≤ g := by
      intro g hgb
      have hbo : BOwn w1 w.heap.size (⟨a', n', c'⟩ : Sl).a (⟨a', n', c'⟩ : Sl).n (⟨a', n', c'⟩ : Sl).c b := ho
      obtain ⟨hc, ha⟩ := hbo.blk hgb
      obtain ⟨g', ha', hlt, _⟩ := Own.block hbo hc
      rw [ha] at ha'
      obtain rfl : g = g' := by simpa using ha'
      exact hlt
    intro i j hi hj hij g hgi hgj
    simp only [List.length_append, List.length_singleton] at hi hj
    by_cases ei : i < L.length
    · by_cases ej : j < L.length
      · rw [List.getElem_append_left ei] at hgi
        rw [List.getElem_append_left ej] at hgj
        exact h4 i j ei ej hij g hgi hgj
      · obtain rfl : j = L.length := by omega
        rw [List.getElem_append_left ei] at hgi
        have e2 : (L ++ [⟨a', n', c'⟩])[L.length]'(by simp) = (⟨a', n', c'⟩ : Sl) := by simp
        rw [e2] at hgj
        have := old i ei g hgi
        have := new g hgj
        omega
    · obtain rfl : i = L.length := by omega
      have ej : j < L.length := by omega
      rw [List.getElem_append_left ej] at hgj
      have e2 : (L ++ [⟨a', n', c'⟩])[L.length]'(by simp) = (⟨a', n', c'⟩ : Sl) := by simp
      rw [e2] at hgi
      have := old j ej g hgj
      have := new g hgi
      omega
theorem LIs.mono' {w : World} {base base' : Nat} {a : Option Addr} {n c : Nat} {bs : List (List UInt8)} {L : List Sl} (h : LIs w base a n c bs L) (hb : base' ≤ base) : LIs w base' a n c bs L :=
  ⟨Own.mono h.outer hb, h.len, fun i h1 h2 => (h.inner i h1 h2).mono hb, h.apart⟩
/-- two results that lie in cells -/
theorem results_cell2 {fn : Func} {p q : Tmp} (h : fn.results = #[.cell p 24, .cell q 4]) (tmps : Array Value) (w : World) (g g' : Nat) (v v' : Value) (hp : tmps.getD p undef = .pointer (some ⟨g, 0, none⟩)) (hq : tmps.getD q undef = .pointer (some ⟨g', 0, none⟩)) (hr : Row w g 24 #[v]) (hr' : Row w g' 4 #[v']) :
    (results fn tmps).run Try.prog w = .ok (.tuple #[v, v']) w := by
  have hp' : tmps[p]?.getD undef = .pointer (some ⟨g, 0, none⟩) := by simpa using hp
  have hq' : tmps[q]?.getD undef = .pointer (some ⟨g', 0, none⟩) := by simpa using hq
  have hc := Row.cell hr 0
  have hc' := Row.cell hr' 0
  simp at hc hc'
  simp [results, h, hp', hq', asAddr, loadVar, isAgg, run_underlying Try.underlying4, run_underlying Try.underlying24, hc, hc']

theorem wp_normal {P : Program} {c : Code} {Q : Exit → Act → World → Prop} {a : Act} {w : World} (h : c.wp P (QN fun a w => Q .normal a w) a w) : c.wp P Q a w :=
  wp_mono h (fun e a w h => by obtain ⟨rfl, h⟩ := h; exact h)
/-- a region's stores: the cell b8 may have changed -/
def S8 (b8 : Nat) (W u : World) : Prop := Ch (fun g => g = b8) W u ∧ ∃ v, Row u b8 24 #[v]
theorem clo_s8 (b8 : Nat) (W : World) : Clo (S8 b8 W) := fun _ _ h g => ⟨h.1.then g, h.2.choose, h.2.choose_spec.grown g⟩
/-- what stands while the segments are gone through -/
def GoI (w : World) (b4 b5 b7 b8 b9 b10 b11 B M : Nat) (s : Sh) (a : Option Addr) (n c : Nat) (pre : List Pce) (W : World) : Prop :=
  ∃ ap cp L, Row W b4 47 #[.int .i64 s.k, .int .i64 s.n, .int .i64 s.seg, .int .i64 s.size, .int .i64 s.segs, .int .i64 s.tail, .int .i64 s.block, .int .i64 s.last] ∧ Row W b5 22 #[.slice a n c] ∧ Row W b7 3 #[.int .i64 (M : Int)] ∧ Row W b8 24 #[.slice none 0 0] ∧ Row W b9 4 #[.bool false] ∧ Row W b10 24 #[.slice ap pre.length cp] ∧ Row W b11 4 #[.bool true] ∧
    LIs W B ap pre.length cp (pre.map Pce.b) L ∧ w.grownBy W none ∧ B ≤ W.heap.size ∧ pre.length < M
theorem GoI.own {w : World} {b4 b5 b7 b8 b9 b10 b11 B M b0 : Nat} {s : Sh} {a : Option Addr} {n c : Nat} (hb : w.heap.size ≤ b0) : OwnFrom b0 (GoI w b4 b5 b7 b8 b9 b10 b11 B M s a n c) :=
  fun _ _ _ _ ⟨ap, cp, L, h1, h2, h3, h4, h5, h6, h7, h8, h9, h10, h11⟩ hg hr => ⟨ap, cp, L, h1.nc hg hr, h2.nc hg hr, h3.nc hg hr, h4.nc hg hr, h5.nc hg hr, h6.nc hg hr, h7.nc hg hr, h8.nc hg hr, grown_nc h9 hg hb hr, Nat.le_trans h10 hg.size, h11⟩
/-- what stands where it is left -/
def GoX (w : World) (b8 b9 B M : Nat) (cd : Code) (pre : List Pce) (W : World) : Prop :=
  cd = .ret ∧ ∃ ap cp L, Row W b8 24 #[.slice ap pre.length cp] ∧ Row W b9 4 #[.bool true] ∧ LIs W B ap pre.length cp (pre.map Pce.b) L ∧ w.grownBy W none ∧ pre.length = M
theorem GoX.own {w : World} {b8 b9 B M b0 : Nat} (hb : w.heap.size ≤ b0) (cd : Code) : OwnFrom b0 (GoX w b8 b9 B M cd) :=
  fun _ _ _ _ ⟨h0, ap, cp, L, h1, h2, h3, h4, h5⟩ hg hr => ⟨h0, ap, cp, L, h1.nc hg hr, h2.nc hg hr, h3.nc hg hr, grown_nc h4 hg hb hr, h5⟩

set_option maxRecDepth 100000 in
set_option maxHeartbeats 4000000 in
theorem gone_n (s : Sh) (hs : s.Wf) (a : Option Addr) (c n : Nat) (l : List UInt8) (w : World) (ha : BLies w a l) (hln : l.length = n) (hnc : n ≤ c) (B c1 c2 : Nat) (ac : Option Addr) (cc : Nat) (hc : Sgk w B c1 c2 s ac n cc l) (M : Nat) (hM : 1 ≤ M) (hM2 : M ≤ 1048576) :
    Calls Try.prog 49 #[s.val, .slice a n c, .func (.func 59) #[] #[.pointer (some ⟨c1, 0, none⟩), .pointer (some ⟨c2, 0, none⟩)], .int .i64 (M : Int)] w fun e w' =>
      ∃ ao co L, e = .returned (.tuple #[.slice ao ((sgs s l).take M).length co, .bool true]) ∧ LIs w' w.heap.size ao ((sgs s l).take M).length co (((sgs s l).take M).map (·.2)) L ∧ w.grownBy w' none := by
  obtain ⟨ill, hill, hillz, hills, _⟩ := info_parts (show (Try.prog.info? 24).map (fun i => (i.zero, i.size, i.bytes)) = some (some (.slice none 0 0), 1, 24) by kernel_rfl)
  obtain ⟨ib, hib, hibz, hibs, _⟩ := info_parts (show (Try.prog.info? 4).map (fun i => (i.zero, i.size, i.bytes)) = some (some (.bool false), 1, 1) by kernel_rfl)
  have HA := Lib.hid ha
  have HLN := Lib.hid hln
  have HC := Lib.hid hc
  have HWF := Lib.hid hs
  clear ha hln hc hs
  unfold Sh.val
  refine calls_of_wp_marks Try.func49 rfl ?_
  simp only [Try.ntmps49, List.size_toArray, List.length_cons, List.length_nil, Nat.reduceAdd, Nat.reduceSub, Array.replicate_succ, Array.replicate_zero, List.push_toArray, List.append_toArray, List.nil_append, List.cons_append]
  go_upto_region 3 with (first
    | (refine wpList_boxed rfl rfl #[.int .i64 s.k, .int .i64 s.n, .int .i64 s.seg, .int .i64 s.size, .int .i64 s.segs, .int .i64 s.tail, .int .i64 s.block, .int .i64 s.last] rfl ?_; intro w1 hs1 hg1 hr1; have HG1 := Lib.hid hg1; have H41 := Lib.hid hr1; clear hs1 hg1 hr1)
    | (refine wpList_box1 rfl rfl (.slice a n c) rfl rfl ?_; intro w2 hs2 hg2 hr2; have HG2 := Lib.hid (grownBy_trans HG1.out hg2); have H42 := Lib.hid (H41.out.grown hg2); have H52 := Lib.hid hr2; clear hs2 hg2 hr2)
    | (refine wpList_box1 rfl rfl (.int .i64 (M : Int)) rfl rfl ?_; intro w3 hs3 hg3 hr3; have HG3 := Lib.hid (grownBy_trans HG2.out hg3); have H43 := Lib.hid (H42.out.grown hg3); have H53 := Lib.hid (H52.out.grown hg3); have H73 := Lib.hid hr3; clear hs3 hg3 hr3)
    | (refine wpList_fresh1 rfl rfl rfl rfl rfl hib hibz hibs rfl (.bool true) rfl rfl rfl ?_; intro w7 hs7 hg7 hr7; have HG7 := Lib.hid (grownBy_trans HG6.out hg7); have H47 := Lib.hid (H46.out.grown hg7); have H57 := Lib.hid (H56.out.grown hg7); have H77 := Lib.hid (H76.out.grown hg7); have H87 := Lib.hid (H86.out.grown hg7); have H97 := Lib.hid (H96.out.grown hg7); have H07 := Lib.hid (H06.out.grown hg7); have H17 := Lib.hid hr7; clear hs7 hg7 hr7)
    | (refine wpList_made rfl rfl hib hibz ?_; intro w5 hs5 hg5 hr5; have HG5 := Lib.hid (grownBy_trans HG4.out hg5); have H45 := Lib.hid (H44.out.grown hg5); have H55 := Lib.hid (H54.out.grown hg5); have H75 := Lib.hid (H74.out.grown hg5); have H85 := Lib.hid (H84.out.grown hg5); have H95 := Lib.hid (show Row w5 w4.heap.size 4 #[.bool false] from hr5); clear hs5 hg5 hr5)
    | (refine wpList_made rfl rfl hill hillz ?_; intro w6 hs6 hg6 hr6; have HG6 := Lib.hid (grownBy_trans HG5.out hg6); have H46 := Lib.hid (H45.out.grown hg6); have H56 := Lib.hid (H55.out.grown hg6); have H76 := Lib.hid (H75.out.grown hg6); have H86 := Lib.hid (H85.out.grown hg6); have H96 := Lib.hid (H95.out.grown hg6); have H06 := Lib.hid (show Row w6 w5.heap.size 24 #[.slice none 0 0] from hr6); clear hs6 hg6 hr6)
    | (refine wpList_made rfl rfl hill hillz ?_; intro w4 hs4 hg4 hr4; have HG4 := Lib.hid (grownBy_trans HG3.out hg4); have H44 := Lib.hid (H43.out.grown hg4); have H54 := Lib.hid (H53.out.grown hg4); have H74 := Lib.hid (H73.out.grown hg4); have H84 := Lib.hid (show Row w4 w3.heap.size 24 #[.slice none 0 0] from hr4); clear hs4 hg4 hr4))
  obtain ⟨b4, hb4⟩ : ∃ b4, b4 = w.heap.size := ⟨_, rfl⟩
  obtain ⟨b5, hb5⟩ : ∃ b5, b5 = w1.heap.size := ⟨_, rfl⟩
  obtain ⟨b7, hb7⟩ : ∃ b7, b7 = w2.heap.size := ⟨_, rfl⟩
  obtain ⟨b8, hb8⟩ : ∃ b8, b8 = w3.heap.size := ⟨_, rfl⟩
  obtain ⟨b9, hb9⟩ : ∃ b9, b9 = w4.heap.size := ⟨_, rfl⟩
  obtain ⟨b10, hb10⟩ : ∃ b10, b10 = w5.heap.size := ⟨_, rfl⟩
  obtain ⟨b11, hb11⟩ : ∃ b11, b11 = w6.heap.size := ⟨_, rfl⟩
  have q4 : w.heap.size ≤ b4 := by rw [hb4]; exact Nat.le_refl _
  have qb5 : b4 < b5 := by rw [hb4, hb5]; exact H41.out.lt
  have qb7 : b5 < b7 := by rw [hb5, hb7]; exact H52.out.lt
  have qb8 : b7 < b8 := by rw [hb7, hb8]; exact H73.out.lt
  have qb9 : b8 < b9 := by rw [hb8, hb9]; exact H84.out.lt
  have qb10 : b9 < b10 := by rw [hb9, hb10]; exact H95.out.lt
  have qb11 : b10 < b11 := by rw [hb10, hb11]; exact H06.out.lt
  have q12 : b11 < w7.heap.size := by rw [hb11]; exact H17.out.lt
  rw [← hb4] at H47 ⊢
  rw [← hb5] at H57 ⊢
  rw [← hb7] at H77 ⊢
  rw [← hb8] at H87 ⊢
  rw [← hb9] at H97 ⊢
  rw [← hb10] at H07 ⊢
  rw [← hb11] at H17 ⊢
  clear hb4 hb5 hb7 hb8 hb9 hb10 hb11 HG1 HG2 HG3 HG4 HG5 HG6 H41 H42 H43 H44 H45 H46 H52 H53 H54 H55 H56 H73 H74 H75 H76 H84 H85 H86 H95 H96 H06
  have hbp : ∀ k, Chk.S c1 c2 ac cc k → k < w.heap.size := fun k hk => (HC.out.lt hk).2
  have HBP := Lib.hid hbp
  have HC7 := Lib.hid (HC.out.kept (KeptS.of HG7.out))
  clear hbp HC
  have hnf := func_nilS (.func 59) #[] #[.pointer (some ⟨c1, 0, none⟩), .pointer (some ⟨c2, 0, none⟩)]
  go_wp2_with fail
  refine (wpIn_wide (n := 3)).1 ?_
  refine wpIn_rangeOkA (F := Fence.wide) (n := 3) (fun t x => (((t.setIfInBounds 18 (.int .i64 (x.at_ : Int))).setIfInBounds 19 x.sl.val).setIfInBounds 12 (.int .i64 (x.at_ : Int))).setIfInBounds 13 x.sl.val) rfl (by omega) (gf := 59) (lb := #[.pointer (some ⟨c1, 0, none⟩), .pointer (some ⟨c2, 0, none⟩)]) rfl trivial (enters_of Try.func59 (by kernel_rfl) rfl)
    (segs1_in 2 _ c1 c2 s HWF.out ac n cc l w7 HC7.out) KeptS.trans (fun W l o o' hl _ _ _ => KeptS.put W l o' (fun hs => by have := HBP.out _ hs; omega))
    (fun pre x W0 W l o o' h hl ho => h.put l o' hl ho) (Below.refl _ _) (fun _ => rfl)
    (GoI w b4 b5 b7 b8 b9 b10 b11 w7.heap.size M s a n c) (GoX w b8 b9 w7.heap.size M) (GoI.own HG7.out.size) (fun cd => GoX.own HG7.out.size cd)
    ⟨none, 0, [], H47.out, H57.out, H77.out, H87.out, H97.out, H07.out, H17.out, ⟨Own.nil _ _ _ _ _, rfl, fun i h => absurd h (by simp), fun i j h => absurd h (by simp)⟩, HG7.out, Nat.le_refl _, by show 0 < M; omega⟩ ?assign ?body ?done ?stop
  case assign =>
    intro lp x W K hK
    simp only [Pce.vals]
    gi_wp2
    exact hK
  case stop =>
    rintro D cd pre W hD ⟨r, hr⟩ ⟨rfl, ap, cp, L, r8, r9, hli, hgw, hpm⟩ hK
    refine wpIn_ret ?_
    have htk : (sgs s l).take M = pre.map Pce.pr := by rw [← hr, List.take_left' (by rw [List.length_map]; exact hpm)]
    have hbs : ((sgs s l).take M).map (·.2) = pre.map Pce.b := by rw [htk, List.map_map]; rfl
    have hnl : ((sgs s l).take M).length = pre.length := by rw [htk, List.length_map]
    refine ⟨by simp, .inl ⟨_, _, rfl, run_takeDeferred hK, ?_⟩⟩
    have hnc : ∀ r, some D = some r → 0 ≤ r ∧ ∃ o : Obj, W.heap[r]? = some o ∧ o.isCells = false := fun r e => by cases e; exact ⟨Nat.zero_le _, _, hK, rfl⟩
    refine ⟨_, results_cell2 rfl _ _ b8 b9 _ _ rfl rfl (r8.nc (b0 := 0) (grownBy_putObj' _ D _) hnc) (r9.nc (b0 := 0) (grownBy_putObj' _ D _) hnc), ap, cp, L, by rw [hnl], ?_, grown_nc hgw (grownBy_putObj' _ D _) (Nat.le_refl _) (fun r e => by cases e; exact ⟨Nat.le_trans HG7.out.size hD, _, hK, rfl⟩)⟩
    rw [hbs, hnl]
    exact (hli.nc (b0 := 0) (grownBy_putObj' _ D _) hnc).mono' HG7.out.size
  case body =>
    rintro lp pre ⟨at_, ⟨sa, sm, sc⟩, pb⟩ W0 W hI0 hI hkc hok
    obtain ⟨ap, cp, L, r4, r5, r7, r8, r9, r10, r11, hli0, _, hob0, hpm⟩ := hI0
    obtain ⟨_, _, _, _, _, _, _, _, _, _, _, hgw, _, _⟩ := hI
    obtain ⟨hfit, hsize⟩ := sgs_fits hok.at_
    obtain ⟨S, K, G, N⟩ := seg_num hfit hsize
    obtain ⟨hat, hpb, hlt⟩ := sgs_idx hfit hsize N.segs hok.at_
    simp only at hat hpb
    subst hat
    have hS1 := N.S1
    have hown : BOwn W W0.heap.size sa sm sc pb := hok.own
    have hlv : pb.length = sm := BOwn.len hown
    have hsgE : sgE s n (pre.length : Int) = 0 := by
      obtain ⟨_, _, hze, _⟩ := N.one pre.length hlt
      unfold sgE
      rw [if_pos hfit, if_pos (by rw [← HLN.out]; exact hsize)]
      exact hze
    have hrs := fun (u : World) (h : BLies u a l) => refSegment_n s HWF.out a c n l (pre.length : Int) u h HLN.out hnc
    rw [hsgE, ← hpb] at hrs
    unfold Sh.val at hrs
    have hnl : sm ≤ 16777216 := by
      have h1 : pb.length ≤ l.length := by rw [hpb]; exact sgR_len s l _
      have h2 := sg_size hfit hsize
      omega
    have hli := hli0.keptC hkc
    have R4 := Lib.hid (r4.keptC hkc)
    have R5 := Lib.hid (r5.keptC hkc)
    have R7 := Lib.hid (r7.keptC hkc)
    have R8 := Lib.hid (r8.keptC hkc)
    have R9 := Lib.hid (r9.keptC hkc)
    have R10 := Lib.hid (r10.keptC hkc)
    have R11 := Lib.hid (r11.keptC hkc)
    have HLI0 := Lib.hid hli0
    have HLI := Lib.hid hli
    have HOWN := Lib.hid hown
    have HLV := Lib.hid hlv
    have HGW := Lib.hid hgw
    have HRS := Lib.hid hrs
    have HOB0 := Lib.hid hob0
    have HKZ := Lib.hid hkc.size
    have HRSE := Lib.hid hok.at_
    have hin0 : ∀ g, In ap cp g → w7.heap.size ≤ g := fun g h => (Own.inn hli.outer h).1
    have HIN0 := Lib.hid hin0
    have c5 := Row.cell R5.out 0
    have c10 := Row.cell R10.out 0
    simp at c5 c10
    clear hli hli0 hown hlv hgw hrs hob0 hkc r4 r5 r7 r8 r9 r10 r11 hin0 hsgE hpb hok hfit hsize N
    simp only [List.setIfInBounds_toArray, List.set_cons_zero, List.set_cons_succ, Sl.val]
    have hMi : ((M : Int) ≤ (pre.length : Int) + 1) = (M ≤ pre.length + 1) := by apply propext; omega
    gi_wp2_with (first
      | (refine wpListIn_valR rfl (fun c h => by cases h) (run_load_op _ _ 47 (.tmp 4) rfl b4 rfl 47 _ R4.out Try.underlying47 rfl size_shape') ?_)
      | (refine ⟨trivial, ?_⟩; gi_at_call 47; refine (calls_wide (HRS.out W (HA.out.grown HGW.out))).mono ?_; rintro e W1 ⟨⟨aw, mw, cw, rfl, how⟩, hg⟩; obtain rfl : sm = mw := (by rw [← HLV.out]; exact BOwn.len how); have HOW := Lib.hid how; have GW1 := Lib.hid hg; have c101 := Row.cell (R10.out.grown hg) 0; have c111 := Row.cell (R11.out.grown hg) 0; simp at c101 c111; clear hg how c5 c10)
      | (refine ⟨trivial, ?_⟩; gi_at_call 27; refine (calls_wide (same_yes sa aw sc cw sm sm pb W1 (BOwn.lies (BOwn.grown HOWN.out GW1.out)) (BOwn.lies HOW.out) HLV.out HLV.out (by unfold maxLen; omega))).mono ?_; rintro e W2 ⟨rfl, q5, hq5⟩; have GW2 := Lib.hid (grownBy_trans GW1.out (show W1.grownBy W2 none from hq5 ▸ grownBy_drewN _ _ _)); have R112 := Lib.hid (R11.out.grown GW2.out); have c112 := Row.cell R112.out 0; have f112 := Row.frozen R112.out 0; simp at c112; clear hq5 q5 c101 c111)
      | (refine wpListIn_skipR (w1 := W2.setCell ⟨b11, 0, none⟩ (.bool true)) 4 (.tmp 11) (.tmp 43) rfl rfl (fun c h => by cases h) (by go_simp) ?_; obtain ⟨W3, hW3⟩ : ∃ W3, W3 = W2.setCell ⟨b11, 0, none⟩ (.bool true) := ⟨_, rfl⟩; rw [← hW3]; have hg3 : W2.grownBy W3 (some b11) := hW3 ▸ grownBy_setCell _ _ _ _; have hch3 : Ch (fun g => g = b11) W W3 := (Ch.ofNone GW2.out _).trans (Ch.ofSome (S := fun g => g = b11) hg3 rfl) (fun _ _ h => h); have R113 := Lib.hid (show Row W3 b11 4 #[.bool true] from hW3 ▸ Row.setc R112.out 0 _); have HCH3 := Lib.hid hch3; have R103 := Lib.hid (R10.out.ch hch3 (by omega)); have c103 := Row.cell R103.out 0; simp at c103; clear hW3 hg3 hch3 c112 f112)
      | (refine wpListIn_opR (.buildSlice 24 1 #[(0, .tmp 45)]) rfl (v := .slice (some ⟨W3.heap.size, 0, none⟩) 1 1) (w1 := W3.alloc (.cells #[.slice sa sm sc] 22)) rfl (fun c h => by cases h) (by go_simp) ?_; obtain ⟨W4, hW4⟩ : ∃ W4, W4 = W3.alloc (.cells #[.slice sa sm sc] 22) := ⟨_, rfl⟩; rw [← hW4]; have hg4 : W3.grownBy W4 none := hW4 ▸ World.grownBy_alloc _ _ _; have hrw4 : Row W4 W3.heap.size 22 #[.slice sa sm sc] := hW4 ▸ heap_alloc_new W3 _; obtain ⟨b0, hb0⟩ : ∃ b0, b0 = W3.heap.size := ⟨_, rfl⟩; rw [← hb0] at hrw4; rw [← hb0]; have hch4 := Lib.hid (HCH3.out.then hg4); have HLI4 := Lib.hid (LIs.chS HLI.out hch4.out (fun g hi h => (by have := HIN0.out g hi; omega)) (fun i hi g hg h => (by have := (Own.inn (HLI.out.inner i hi (by have := HLI.out.len; omega)) hg).1; omega))); obtain ⟨g5, cp5, W5, hrun, hown5, hgr5⟩ := run_app (P := Try.prog) (ty := 24) W4 elS HLI4.out.outer ⟨b0, 0, none⟩ 1 1 [.slice sa sm sc] rfl (news_one hrw4) (by simp [Value.oneCell']) (by unfold maxLen; omega) (by omega) (Nat.le_trans HOB0.out (Nat.le_trans HKZ.out hch4.out.size)) (fun _ _ _ => trivial) (by omega); have HRUN := Lib.hid hrun; have HO5 := Lib.hid hown5; have HGR5 := Lib.hid hgr5; have R104 := Lib.hid (R103.out.grown hg4); have R114 := Lib.hid (R113.out.grown hg4); have R105 := Lib.hid (R104.out.ch hgr5.ch (row_in R104.out HLI4.out.outer (by decide))); have c105 := Row.cell R105.out 0; have f105 := Row.frozen R105.out 0; simp at c105; clear hW4 hg4 hrw4 hb0 hrun hown5 hgr5 c103)
      | (refine wpListIn_valR rfl (fun c h => by cases h) (run_app_op _ _ _ (.tmp 44) (.tmp 46) rfl _ HRUN.out) ?_)
      | (refine wpListIn_skipR (w1 := W5.setCell ⟨b10, 0, none⟩ (.slice (some ⟨g5, 0, none⟩) (pre.length + 1) cp5)) 24 (.tmp 10) (.tmp 47) rfl rfl (fun c h => by cases h) (by go_simp) ?_; obtain ⟨W6, hW6⟩ : ∃ W6, W6 = W5.setCell ⟨b10, 0, none⟩ (.slice (some ⟨g5, 0, none⟩) (pre.length + 1) cp5) := ⟨_, rfl⟩; rw [← hW6]; have hg6 : W5.grownBy W6 (some b10) := hW6 ▸ grownBy_setCell _ _ _ _; have hch6 : Ch (fun g => g = b10 ∨ g = b11 ∨ In ap cp g) W W6 := ((hch4.out.mono (fun _ _ h => .inr (.inl h))).trans (HGR5.out.ch.mono (fun _ _ h => .inr (.inr h))) (fun _ _ h => h)).trans (Ch.ofSome (S := fun g => g = b10 ∨ g = b11 ∨ In ap cp g) hg6 (.inl rfl)) (fun _ _ h => h); have R106 := Lib.hid (show Row W6 b10 24 #[.slice (some ⟨g5, 0, none⟩) (pre.length + 1) cp5] from hW6 ▸ Row.setc R105.out 0 _); have R116 := Lib.hid ((R114.out.ch HGR5.out.ch (row_in R114.out HLI4.out.outer (by decide))).grownNe hg6 (by omega)); have R76 := Lib.hid (R7.out.ch hch6 (fun h => (by rcases h with h | h | h <;> first | omega | (have := HIN0.out _ h; omega)))); have HG56 := Lib.hid hg6; have HCH6 := Lib.hid hch6; have c106 := Row.cell R106.out 0; have c116 := Row.cell R116.out 0; have c76 := Row.cell R76.out 0; simp at c106 c116 c76; clear hW6 hg6 hch6 c105 f105))
    all_goals
      have hP4 : BOwn W4 W0.heap.size sa sm sc pb := Own.ch HOWN.out hch4.out (fun h0 g e h => by have h1 := (Own.inn HOWN.out (g := g) ⟨h0, e⟩).1; have h2 := HOB0.out; omega)
      have hP5 : LIs W5 w7.heap.size (some ⟨g5, 0, none⟩) (pre.length + 1) cp5 (pre.map Pce.b ++ [pb]) (L ++ [⟨sa, sm, sc⟩]) := LIs.pushD HLI0.out HOB0.out HLI4.out hP4 HO5.out HGR5.out
      have hP6 : LIs W6 w7.heap.size (some ⟨g5, 0, none⟩) (pre.length + 1) cp5 (pre.map Pce.b ++ [pb]) (L ++ [⟨sa, sm, sc⟩]) := hP5.chS (Ch.ofSome (S := fun k => k = b10) HG56.out rfl) (fun g hi h => by
        subst h
        exact row_in R105.out hP5.outer (by decide) hi) (fun j hj g hi h => by
        subst h
        exact row_in R105.out (hP5.inner j hj (by have := hP5.len; omega)) (by decide) hi)
      have HP6 := Lib.hid hP6
      have no : ∀ b, b < b10 → ¬ (b = b10 ∨ b = b11 ∨ In ap cp b) := fun b hb h => by
        rcases h with h | h | h
        · omega
        · omega
        · have := HIN0.out _ h; omega
      have NO := Lib.hid no
      have hml : (pre ++ [(⟨pre.length, ⟨sa, sm, sc⟩, pb⟩ : Pce)]).map Pce.b = pre.map Pce.b ++ [pb] := by simp
      have hln : (pre ++ [(⟨pre.length, ⟨sa, sm, sc⟩, pb⟩ : Pce)]).length = pre.length + 1 := by simp
      have HML := Lib.hid hml
      have HLL := Lib.hid hln
      have hkf : KeepsFrom w7.heap.size W W6 := KeepsFrom.ch HCH6.out (fun g hS => by
        rcases hS with rfl | rfl | h
        · exact ⟨_, _, _, R10.out⟩
        · exact ⟨_, _, _, R11.out⟩
        · exact Own.cellsAt HLI.out.outer h)
      have HKF := Lib.hid hkf
      have hgw6 : w.grownBy W6 none := Ch.fresh HGW.out HCH6.out (fun g hg hT => by
        rcases hT with h | h | h
        · omega
        · omega
        · have := HIN0.out _ h; have := q12; omega)
      have HGW6 := Lib.hid hgw6
      clear hP4 hP5 hP6 no hml hln hkf hgw6
    · rename_i hMp
      have R8U := Lib.hid (R8.out.ch HCH6.out (NO.out _ (by omega)))
      have R9U := Lib.hid (R9.out.ch HCH6.out (NO.out _ (by omega)))
      have hr9u : ∀ u, Ch (fun g => g = b8) W6 u → Row u b9 4 #[.bool false] := fun u hu => R9U.out.ch hu (by omega)
      have hc10u : ∀ u, Ch (fun g => g = b8) W6 u → u.cell? ⟨b10, 0, none⟩ = some (.slice (some ⟨g5, 0, none⟩) (pre.length + 1) cp5) := fun u hu => by
        have h := Row.cell (R106.out.ch hu (by omega)) 0
        simpa using h
      have hc11u : ∀ u, Ch (fun g => g = b8) W6 u → u.cell? ⟨b11, 0, none⟩ = some (.bool true) := fun u hu => by
        have h := Row.cell (R116.out.ch hu (by omega)) 0
        simpa using h
      have HR9U := Lib.hid hr9u
      have HC10U := Lib.hid hc10u
      have HC11U := Lib.hid hc11u
      clear hr9u hc10u hc11u c106 c116 c76
      refine wpIn_regionX (S8 b8 W6) 3 (by kernel_rfl) (by kernel_rfl) ⟨Ch.ofNone (grownBy_drewN W6 1 none) _, _, R8U.out.grown (grownBy_drewN W6 1 none)⟩ ?_
      refine wpX_take 0 (v := .slice (some ⟨g5, 0, none⟩) (pre.length + 1) cp5) (oi := { dst := some 56, op := Op.load 24 (Operand.tmp 10), type := 24, pos := "law.go:73", after := #[], guard := none }) (oL := { dst := none, op := Op.store 4 (Operand.tmp 9) (Operand.tmp 57), type := 0, pos := "law.go:73", after := #[{ on := 1, ground := Ground.data }, { on := 2, ground := Ground.chain }, { on := 0, ground := Ground.phase }, { on := 1, ground := Ground.phase }, { on := 2, ground := Ground.phase }], guard := none }) (clo_s8 _ _) rfl rfl rfl (by kernel_rfl) (by kernel_rfl) (by kernel_rfl) (by kernel_rfl) (by kernel_rfl) (fun _ _ _ h => by cases h.1) (YG.val (by rfl) (fun u hu => by have hc := HC10U.out u hu.1; go_simp)) ?_
      simp only [Act.put, List.setIfInBounds_toArray, List.set_cons_zero, List.set_cons_succ]
      refine wpX_take 1 (v := .bool true) (oi := { dst := some 57, op := Op.load 4 (Operand.tmp 11), type := 4, pos := "law.go:73", after := #[], guard := none }) (oL := { dst := none, op := Op.store 4 (Operand.tmp 9) (Operand.tmp 57), type := 0, pos := "law.go:73", after := #[{ on := 1, ground := Ground.data }, { on := 2, ground := Ground.chain }, { on := 0, ground := Ground.phase }, { on := 1, ground := Ground.phase }, { on := 2, ground := Ground.phase }], guard := none }) (clo_s8 _ _) rfl rfl rfl (by kernel_rfl) (by kernel_rfl) (by kernel_rfl) (by kernel_rfl) (by kernel_rfl) (fun _ _ _ h => by cases h.1) (YG.val (by rfl) (fun u hu => by have hc := HC11U.out u hu.1; go_simp)) ?_
      simp only [Act.put, List.setIfInBounds_toArray, List.set_cons_zero, List.set_cons_succ]
      refine wpX_step 2 (o := { dst := none, op := Op.store 24 (Operand.tmp 8) (Operand.tmp 56), type := 0, pos := "law.go:73", after := #[{ on := 0, ground := Ground.data }, { on := 0, ground := Ground.phase }, { on := 1, ground := Ground.textOnly Departure.inlinedCapture }], guard := none }) rfl rfl (by kernel_rfl) (by rfl) (fun u2 hS2 K hK => ?_)
      have HK := Lib.hid hK
      have HS2 := Lib.hid hS2
      clear hK hS2
      obtain ⟨v8, hr8u⟩ := HS2.out.2
      have c8u := Row.cell hr8u 0
      have f8u := Row.frozen hr8u 0
      simp at c8u
      refine wp_skip_op (w1 := u2.setCell ⟨b8, 0, none⟩ (.slice (some ⟨g5, 0, none⟩) (pre.length + 1) cp5)) (by go_simp) ?_
      obtain ⟨u3, hu3⟩ : ∃ u3, u3 = u2.setCell ⟨b8, 0, none⟩ (.slice (some ⟨g5, 0, none⟩) (pre.length + 1) cp5) := ⟨_, rfl⟩
      rw [← hu3]
      have hg3 : u2.grownBy u3 (some b8) := hu3 ▸ grownBy_setCell _ _ _ _
      have hr83 : Row u3 b8 24 #[.slice (some ⟨g5, 0, none⟩) (pre.length + 1) cp5] := hu3 ▸ Row.setc hr8u 0 _
      refine HK.out (fun u => S8 b8 W6 u ∧ Row u b8 24 #[.slice (some ⟨g5, 0, none⟩) (pre.length + 1) cp5]) _ _ ⟨⟨HS2.out.1.trans (Ch.ofSome (S := fun g => g = b8) hg3 rfl) (fun _ _ h => h), _, hr83⟩, hr83⟩ (fun u h => h.1) (clo_and (clo_s8 _ _) (clo_row _ _ _)) ?_
      simp only [Act.put, List.setIfInBounds_toArray, List.set_cons_zero, List.set_cons_succ]
      clear HK HS2 hr8u c8u f8u hu3 hg3 hr83
      refine wpX_last (oL := { dst := none, op := Op.store 4 (Operand.tmp 9) (Operand.tmp 57), type := 0, pos := "law.go:73", after := #[{ on := 1, ground := Ground.data }, { on := 2, ground := Ground.chain }, { on := 0, ground := Ground.phase }, { on := 1, ground := Ground.phase }, { on := 2, ground := Ground.phase }], guard := none }) rfl (by kernel_rfl) (by kernel_rfl) (by rfl) (fun u4 hS4 K4 hK4 => ?_)
      have hr9u : Row u4 b9 4 #[.bool false] := HR9U.out u4 hS4.1.1
      have c9u := Row.cell hr9u 0
      have f9u := Row.frozen hr9u 0
      simp at c9u
      refine wp_skip_op (w1 := u4.setCell ⟨b9, 0, none⟩ (.bool true)) (by go_simp) (hK4 _ _ ?_)
      simp only [Act.put]
      obtain ⟨u5, hu5⟩ : ∃ u5, u5 = u4.setCell ⟨b9, 0, none⟩ (.bool true) := ⟨_, rfl⟩
      rw [← hu5]
      have hg5 : u4.grownBy u5 (some b9) := hu5 ▸ grownBy_setCell _ _ _ _
      have hr95 : Row u5 b9 4 #[.bool true] := hu5 ▸ Row.setc hr9u 0 _
      have hr85 : Row u5 b8 24 #[.slice (some ⟨g5, 0, none⟩) (pre.length + 1) cp5] := hS4.2.grownNe hg5 (by omega)
      have hch5 : Ch (fun g => g = b8 ∨ g = b9) W6 u5 := (hS4.1.1.mono (fun _ _ h => .inl h)).trans (Ch.ofSome (S := fun g => g = b8 ∨ g = b9) hg5 (.inr rfl)) (fun _ _ h => h)
      have HR95 := Lib.hid hr95
      have HR85 := Lib.hid hr85
      have HCH5 := Lib.hid hch5
      clear hS4 hK4 hr9u c9u f9u hu5 hg5 hr95 hr85 hch5
      refine ⟨rfl, ?_⟩
      show Exit.then _ _ _ _ _
      gi_wp2
      have hch : Ch (fun g => g = b10 ∨ g = b11 ∨ In ap cp g ∨ g = b8 ∨ g = b9) W u5 := (HCH6.out.mono (fun _ _ h => by rcases h with h | h | h <;> simp [h])).trans (HCH5.out.mono (fun _ _ h => by rcases h with h | h <;> simp [h])) (fun _ _ h => h)
      refine ⟨KeepsFrom.ch hch (fun g hS => ?_), rfl, some ⟨g5, 0, none⟩, cp5, L ++ [⟨sa, sm, sc⟩], ?_, HR95.out, ?_, ?_, ?_⟩
      · rcases hS with rfl | rfl | h | rfl | rfl
        · exact ⟨_, _, _, R10.out⟩
        · exact ⟨_, _, _, R11.out⟩
        · exact Own.cellsAt HLI.out.outer h
        · exact ⟨_, _, _, R8.out⟩
        · exact ⟨_, _, _, R9.out⟩
      · rw [HLL.out]; exact HR85.out
      · rw [HML.out, HLL.out]
        exact HP6.out.chS HCH5.out (fun g hi h => by have h1 := (Own.inn HP6.out.outer hi).1; rcases h with h | h <;> omega) (fun j hj g hg h => by have h1 := (Own.inn (HP6.out.inner j hj (by have := HP6.out.len; omega)) hg).1; rcases h with h | h <;> omega)
      · exact Ch.fresh HGW6.out HCH5.out (fun g hg hT => by rcases hT with h | h <;> omega)
      · rw [HLL.out]; omega
    · rename_i hMp
      refine ⟨HKF.out, KeptS.ch HCH6.out (fun g hs hT => ?_), some ⟨g5, 0, none⟩, cp5, L ++ [⟨sa, sm, sc⟩], R4.out.ch HCH6.out (NO.out _ (by omega)), R5.out.ch HCH6.out (NO.out _ (by omega)), R76.out, R8.out.ch HCH6.out (NO.out _ (by omega)), R9.out.ch HCH6.out (NO.out _ (by omega)), ?_, R116.out, ?_, HGW6.out, Nat.le_trans HOB0.out (Nat.le_trans HKZ.out HCH6.out.size), ?_⟩
      · have h1 := HBP.out _ hs
        rcases hT with h | h | h
        · omega
        · omega
        · have := HIN0.out _ h; omega
      · rw [HLL.out]; exact R106.out
      · rw [HML.out, HLL.out]; exact HP6.out
      · rw [HLL.out]; omega
  case done =>
    rintro D xs W hD hS ⟨ap, cp, L, r4, r5, r7, r8, r9, r10, r11, hli, hgw, hob, hpm⟩ hK
    have htk : (sgs s l).take M = xs.map Pce.pr := by rw [← hS, List.take_of_length_le (by rw [List.length_map]; omega)]
    have hbs : ((sgs s l).take M).map (·.2) = xs.map Pce.b := by rw [htk, List.map_map]; rfl
    have hnl : ((sgs s l).take M).length = xs.length := by rw [htk, List.length_map]
    have HBS := Lib.hid hbs
    have HNL := Lib.hid hnl
    have HS := Lib.hid hS
    have HLI := Lib.hid hli
    have HG := Lib.hid hgw
    have HK := Lib.hid hK
    have HDW := Lib.hid hD
    have R4 := Lib.hid r4
    have R5 := Lib.hid r5
    have R8 := Lib.hid r8
    have R9 := Lib.hid r9
    have R10 := Lib.hid r10
    have hff := fun u => refFits_n s HWF.out u
    unfold Sh.val at hff
    have HFF := Lib.hid hff
    clear hff htk hbs hnl hS hli hgw hK hD r4 r5 r7 r8 r9 r10 r11 hob hpm
    by_cases hfit : fits s
    · by_cases hsize : (l.length : Int) = s.size
      · obtain ⟨S, K, G, N⟩ := seg_num hfit hsize
        have hxl : xs.length = S := by rw [← sgs_len hfit hsize N.segs, ← HS.out, List.length_map]
        have hnz : ((n : Int) == s.size) = true := by rw [beq_iff_eq, ← HLN.out]; exact hsize
        have HFD := Lib.hid (decide_eq_true hfit)
        have HSE := Lib.hid N.segs
        have HXL := Lib.hid hxl
        clear hfit hsize N hxl
        go_upto_region 14 with (first
          | (refine wpList_load_row rfl 47 _ rfl b4 rfl 47 _ (0, 0) _ R4.out Try.underlying47 rfl size_shape' ?_)
          | (go_at_call 37; refine (HFF.out W).mono ?_; rintro e WD ⟨rfl, g⟩; have GD := Lib.hid g; rw [HFD.out]; have c5 := Row.cell (R5.out.grown g) 0; have c43 := Row.cell (R4.out.grown g) 3; have c44 := Row.cell (R4.out.grown g) 4; simp at c5 c43 c44; rw [HSE.out, ← HXL.out] at c44; clear g))
        have HGD := Lib.hid (grownBy_trans HG.out GD.out)
        have HKD := Lib.hid ((GD.out.block _ (Array.getElem?_eq_some_iff.1 HK.out).1 (by simp)).trans HK.out)
        have R8U := Lib.hid (R8.out.grown GD.out)
        have R9U := Lib.hid (R9.out.grown GD.out)
        have R10U := Lib.hid (R10.out.grown GD.out)
        have HLID := Lib.hid (HLI.out.grown GD.out)
        have hr9u : ∀ u, Ch (fun g => g = b8) WD u → Row u b9 4 #[.bool false] := fun u hu => R9U.out.ch hu (by omega)
        have hc10u : ∀ u, Ch (fun g => g = b8) WD u → u.cell? ⟨b10, 0, none⟩ = some (.slice ap xs.length cp) := fun u hu => by
          have h := Row.cell (R10U.out.ch hu (by omega)) 0
          simpa using h
        have HR9U := Lib.hid hr9u
        have HC10U := Lib.hid hc10u
        clear hr9u hc10u
        refine wp_normal ?_
        refine wp_regionX (S8 b8 WD) 6 (by kernel_rfl) ⟨Ch.ofNone (grownBy_drewN WD 1 none) _, _, R8U.out.grown (grownBy_drewN WD 1 none)⟩ ?_
        refine wpX_take 0 (v := .slice ap xs.length cp) (oi := { dst := some 69, op := Op.load 24 (Operand.tmp 10), type := 24, pos := "law.go:80", after := #[], guard := none }) (oL := { dst := none, op := Op.store 4 (Operand.tmp 9) (Operand.tmp 73), type := 0, pos := "law.go:80", after := #[{ on := 4, ground := Ground.data }, { on := 5, ground := Ground.chain }, { on := 0, ground := Ground.phase }, { on := 1, ground := Ground.phase }, { on := 2, ground := Ground.phase }, { on := 3, ground := Ground.phase }, { on := 4, ground := Ground.phase }, { on := 5, ground := Ground.phase }], guard := none }) (clo_s8 _ _) rfl rfl rfl (by kernel_rfl) (by kernel_rfl) (by kernel_rfl) (by kernel_rfl) (by kernel_rfl) (fun _ _ _ h => by cases h.1) (YG.val (by rfl) (fun u hu => by have hc := HC10U.out u hu.1; go_simp)) ?_
        simp only [Act.put, List.setIfInBounds_toArray, List.set_cons_zero, List.set_cons_succ]
        refine wpX_take 1 (v := .slice ap xs.length cp) (oi := { dst := some 70, op := Op.load 24 (Operand.tmp 10), type := 24, pos := "law.go:80", after := #[], guard := none }) (oL := { dst := none, op := Op.store 4 (Operand.tmp 9) (Operand.tmp 73), type := 0, pos := "law.go:80", after := #[{ on := 4, ground := Ground.data }, { on := 5, ground := Ground.chain }, { on := 0, ground := Ground.phase }, { on := 1, ground := Ground.phase }, { on := 2, ground := Ground.phase }, { on := 3, ground := Ground.phase }, { on := 4, ground := Ground.phase }, { on := 5, ground := Ground.phase }], guard := none }) (clo_s8 _ _) rfl rfl rfl (by kernel_rfl) (by kernel_rfl) (by kernel_rfl) (by kernel_rfl) (by kernel_rfl) (fun _ _ _ h => by cases h.1) (YG.val (by rfl) (fun u hu => by have hc := HC10U.out u hu.1; go_simp)) ?_
        simp only [Act.put, List.setIfInBounds_toArray, List.set_cons_zero, List.set_cons_succ]
        refine wpX_take 2 (v := .int .i64 (xs.length : Int)) (oi := { dst := some 71, op := Op.call { callee := Callee.builtin Builtin.len, args := #[Operand.tmp 70], argTypes := #[24] }, type := 3, pos := "law.go:80", after := #[{ on := 1, ground := Ground.data }], guard := none }) (oL := { dst := none, op := Op.store 4 (Operand.tmp 9) (Operand.tmp 73), type := 0, pos := "law.go:80", after := #[{ on := 4, ground := Ground.data }, { on := 5, ground := Ground.chain }, { on := 0, ground := Ground.phase }, { on := 1, ground := Ground.phase }, { on := 2, ground := Ground.phase }, { on := 3, ground := Ground.phase }, { on := 4, ground := Ground.phase }, { on := 5, ground := Ground.phase }], guard := none }) (clo_s8 _ _) rfl rfl rfl (by kernel_rfl) (by kernel_rfl) (by kernel_rfl) (by kernel_rfl) (by kernel_rfl) (fun _ _ _ h => by cases h.1) (YG.val (by rfl) (fun _ _ => by go_simp)) ?_
        simp only [Act.put, List.setIfInBounds_toArray, List.set_cons_zero, List.set_cons_succ]
        refine wpX_take 3 (v := .int .i64 (xs.length : Int)) (oi := { dst := some 72, op := Op.move (Operand.tmp 16), type := 3, pos := "law.go:80", after := #[], guard := none }) (oL := { dst := none, op := Op.store 4 (Operand.tmp 9) (Operand.tmp 73), type := 0, pos := "law.go:80", after := #[{ on := 4, ground := Ground.data }, { on := 5, ground := Ground.chain }, { on := 0, ground := Ground.phase }, { on := 1, ground := Ground.phase }, { on := 2, ground := Ground.phase }, { on := 3, ground := Ground.phase }, { on := 4, ground := Ground.phase }, { on := 5, ground := Ground.phase }], guard := none }) (clo_s8 _ _) rfl rfl rfl (by kernel_rfl) (by kernel_rfl) (by kernel_rfl) (by kernel_rfl) (by kernel_rfl) (fun _ _ _ h => by cases h.1) (YG.val (by rfl) (fun _ _ => rfl)) ?_
        simp only [Act.put, List.setIfInBounds_toArray, List.set_cons_zero, List.set_cons_succ]
        refine wpX_take 4 (v := .bool true) (oi := { dst := some 73, op := Op.binOp BinOp.eql 3 (Operand.tmp 71) (Operand.tmp 72) 3, type := 4, pos := "law.go:80", after := #[{ on := 2, ground := Ground.data }, { on := 3, ground := Ground.data }], guard := none }) (oL := { dst := none, op := Op.store 4 (Operand.tmp 9) (Operand.tmp 73), type := 0, pos := "law.go:80", after := #[{ on := 4, ground := Ground.data }, { on := 5, ground := Ground.chain }, { on := 0, ground := Ground.phase }, { on := 1, ground := Ground.phase }, { on := 2, ground := Ground.phase }, { on := 3, ground := Ground.phase }, { on := 4, ground := Ground.phase }, { on := 5, ground := Ground.phase }], guard := none }) (clo_s8 _ _) rfl rfl rfl (by kernel_rfl) (by kernel_rfl) (by kernel_rfl) (by kernel_rfl) (by kernel_rfl) (fun _ _ _ h => by cases h.1) (YG.val (by rfl) (fun _ _ => by go_simp)) ?_
        simp only [Act.put, List.setIfInBounds_toArray, List.set_cons_zero, List.set_cons_succ]
        refine wpX_step 5 (o := { dst := none, op := Op.store 24 (Operand.tmp 8) (Operand.tmp 69), type := 0, pos := "law.go:80", after := #[{ on := 0, ground := Ground.data }, { on := 0, ground := Ground.phase }, { on := 1, ground := Ground.textOnly Departure.inlinedCapture }, { on := 2, ground := Ground.textOnly Departure.lateStoresUnsure }, { on := 3, ground := Ground.textOnly Departure.lateStores }, { on := 4, ground := Ground.textOnly Departure.inlinedCapture }], guard := none }) rfl rfl (by kernel_rfl) (by rfl) (fun u2 hS2 K hK => ?_)
        have HK := Lib.hid hK
        have HS2 := Lib.hid hS2
        clear hK hS2
        obtain ⟨v8, hr8u⟩ := HS2.out.2
        have c8u := Row.cell hr8u 0
        have f8u := Row.frozen hr8u 0
        simp at c8u
        refine wp_skip_op (w1 := u2.setCell ⟨b8, 0, none⟩ (.slice ap xs.length cp)) (by go_simp) ?_
        obtain ⟨u3, hu3⟩ : ∃ u3, u3 = u2.setCell ⟨b8, 0, none⟩ (.slice ap xs.length cp) := ⟨_, rfl⟩
        rw [← hu3]
        have hg3 : u2.grownBy u3 (some b8) := hu3 ▸ grownBy_setCell _ _ _ _
        have hr83 : Row u3 b8 24 #[.slice ap xs.length cp] := hu3 ▸ Row.setc hr8u 0 _
        refine HK.out (fun u => S8 b8 WD u ∧ Row u b8 24 #[.slice ap xs.length cp]) _ _ ⟨⟨HS2.out.1.trans (Ch.ofSome (S := fun g => g = b8) hg3 rfl) (fun _ _ h => h), _, hr83⟩, hr83⟩ (fun u h => h.1) (clo_and (clo_s8 _ _) (clo_row _ _ _)) ?_
        simp only [Act.put, List.setIfInBounds_toArray, List.set_cons_zero, List.set_cons_succ]
        clear HK HS2 hr8u c8u f8u hu3 hg3 hr83
        refine wpX_last (oL := { dst := none, op := Op.store 4 (Operand.tmp 9) (Operand.tmp 73), type := 0, pos := "law.go:80", after := #[{ on := 4, ground := Ground.data }, { on := 5, ground := Ground.chain }, { on := 0, ground := Ground.phase }, { on := 1, ground := Ground.phase }, { on := 2, ground := Ground.phase }, { on := 3, ground := Ground.phase }, { on := 4, ground := Ground.phase }, { on := 5, ground := Ground.phase }], guard := none }) rfl (by kernel_rfl) (by kernel_rfl) (by rfl) (fun u4 hS4 K4 hK4 => ?_)
        have hr9u : Row u4 b9 4 #[.bool false] := HR9U.out u4 hS4.1.1
        have c9u := Row.cell hr9u 0
        have f9u := Row.frozen hr9u 0
        simp at c9u
        refine wp_skip_op (w1 := u4.setCell ⟨b9, 0, none⟩ (.bool true)) (by go_simp) (hK4 _ _ ?_)
        simp only [Act.put]
        obtain ⟨u5, hu5⟩ : ∃ u5, u5 = u4.setCell ⟨b9, 0, none⟩ (.bool true) := ⟨_, rfl⟩
        rw [← hu5]
        have hg5 : u4.grownBy u5 (some b9) := hu5 ▸ grownBy_setCell _ _ _ _
        have hr95 : Row u5 b9 4 #[.bool true] := hu5 ▸ Row.setc hr9u 0 _
        have hr85 : Row u5 b8 24 #[.slice ap xs.length cp] := hS4.2.grownNe hg5 (by omega)
        have hch5 : Ch (fun g => g = b8 ∨ g = b9) WD u5 := (hS4.1.1.mono (fun _ _ h => .inl h)).trans (Ch.ofSome (S := fun g => g = b8 ∨ g = b9) hg5 (.inr rfl)) (fun _ _ h => h)
        have HR95 := Lib.hid hr95
        have HR85 := Lib.hid hr85
        have HCH5 := Lib.hid hch5
        clear hS4 hK4 hr9u c9u f9u hu5 hg5 hr95 hr85 hch5
        refine ⟨rfl, ?_⟩
        show Exit.then _ _ _ _ _
        have HG5 := Lib.hid (Ch.fresh HGD.out HCH5.out (fun g hg hT => by rcases hT with h | h <;> omega))
        have HK5 := Lib.hid ((HCH5.out.block D (Array.getElem?_eq_some_iff.1 HKD.out).1 (fun hT => by have := HDW.out; rcases hT with h | h <;> omega)).trans HKD.out)
        have HLI5 := Lib.hid (HLID.out.chS HCH5.out (fun g hi h => by have h1 := (Own.inn HLID.out.outer hi).1; rcases h with h | h <;> omega) (fun j hj g hg h => by have h1 := (Own.inn (HLID.out.inner j hj (by have := HLID.out.len; omega)) hg).1; rcases h with h | h <;> omega))
        go_wp2_with fail
        refine ⟨by simp, .inl ⟨_, _, rfl, run_takeDeferred HK5.out, ?_⟩⟩
        have hnc : ∀ r, some D = some r → 0 ≤ r ∧ ∃ o : Obj, u5.heap[r]? = some o ∧ o.isCells = false := fun r e => by cases e; exact ⟨Nat.zero_le _, _, HK5.out, rfl⟩
        refine ⟨_, results_cell2 rfl _ _ b8 b9 _ _ rfl rfl (HR85.out.nc (b0 := 0) (grownBy_putObj' _ D _) hnc) (HR95.out.nc (b0 := 0) (grownBy_putObj' _ D _) hnc), ap, cp, L, by rw [HNL.out], ?_, grown_nc HG5.out (grownBy_putObj' _ D _) (Nat.le_refl _) (fun r e => by cases e; exact ⟨Nat.le_trans HG7.out.size HDW.out, _, HK5.out, rfl⟩)⟩
        rw [HBS.out, HNL.out]
        exact (HLI5.out.nc (b0 := 0) (grownBy_putObj' _ D _) hnc).mono' HG7.out.size

      · have hxe : xs = [] := by
          have h := HS.out
          unfold sgs at h
          rw [if_neg (fun h => hsize h.2)] at h
          simpa using h
        have hnz : ((n : Int) == s.size) = false := by rw [beq_eq_false_iff_ne, ← HLN.out]; exact hsize
        have HFD := Lib.hid (decide_eq_true hfit)
        have hx0 : ((xs.length : Int) == 0) = true := by rw [hxe]; rfl
        clear hxe
        clear hfit hsize
        go_upto_region 14 with (first
          | (refine wpList_load_row rfl 47 _ rfl b4 rfl 47 _ (0, 0) _ R4.out Try.underlying47 rfl size_shape' ?_)
          | (go_at_call 37; refine (HFF.out W).mono ?_; rintro e WD ⟨rfl, g⟩; have GD := Lib.hid g; rw [HFD.out]; have c5 := Row.cell (R5.out.grown g) 0; have c43 := Row.cell (R4.out.grown g) 3; simp at c5 c43; clear g))
        have HGD := Lib.hid (grownBy_trans HG.out GD.out)
        have HKD := Lib.hid ((GD.out.block _ (Array.getElem?_eq_some_iff.1 HK.out).1 (by simp)).trans HK.out)
        have R8U := Lib.hid (R8.out.grown GD.out)
        have R9U := Lib.hid (R9.out.grown GD.out)
        have R10U := Lib.hid (R10.out.grown GD.out)
        have HLID := Lib.hid (HLI.out.grown GD.out)
        have hr9u : ∀ u, Ch (fun g => g = b8) WD u → Row u b9 4 #[.bool false] := fun u hu => R9U.out.ch hu (by omega)
        have hc10u : ∀ u, Ch (fun g => g = b8) WD u → u.cell? ⟨b10, 0, none⟩ = some (.slice ap xs.length cp) := fun u hu => by
          have h := Row.cell (R10U.out.ch hu (by omega)) 0
          simpa using h
        have HR9U := Lib.hid hr9u
        have HC10U := Lib.hid hc10u
        clear hr9u hc10u
        refine wp_normal ?_
        refine wp_regionX (S8 b8 WD) 6 (by kernel_rfl) ⟨Ch.ofNone (grownBy_drewN WD 1 none) _, _, R8U.out.grown (grownBy_drewN WD 1 none)⟩ ?_
        refine wpX_take 0 (v := .slice ap xs.length cp) (oi := { dst := some 69, op := Op.load 24 (Operand.tmp 10), type := 24, pos := "law.go:80", after := #[], guard := none }) (oL := { dst := none, op := Op.store 4 (Operand.tmp 9) (Operand.tmp 73), type := 0, pos := "law.go:80", after := #[{ on := 4, ground := Ground.data }, { on := 5, ground := Ground.chain }, { on := 0, ground := Ground.phase }, { on := 1, ground := Ground.phase }, { on := 2, ground := Ground.phase }, { on := 3, ground := Ground.phase }, { on := 4, ground := Ground.phase }, { on := 5, ground := Ground.phase }], guard := none }) (clo_s8 _ _) rfl rfl rfl (by kernel_rfl) (by kernel_rfl) (by kernel_rfl) (by kernel_rfl) (by kernel_rfl) (fun _ _ _ h => by cases h.1) (YG.val (by rfl) (fun u hu => by have hc := HC10U.out u hu.1; go_simp)) ?_
        simp only [Act.put, List.setIfInBounds_toArray, List.set_cons_zero, List.set_cons_succ]
        refine wpX_take 1 (v := .slice ap xs.length cp) (oi := { dst := some 70, op := Op.load 24 (Operand.tmp 10), type := 24, pos := "law.go:80", after := #[], guard := none }) (oL := { dst := none, op := Op.store 4 (Operand.tmp 9) (Operand.tmp 73), type := 0, pos := "law.go:80", after := #[{ on := 4, ground := Ground.data }, { on := 5, ground := Ground.chain }, { on := 0, ground := Ground.phase }, { on := 1, ground := Ground.phase }, { on := 2, ground := Ground.phase }, { on := 3, ground := Ground.phase }, { on := 4, ground := Ground.phase }, { on := 5, ground := Ground.phase }], guard := none }) (clo_s8 _ _) rfl rfl rfl (by kernel_rfl) (by kernel_rfl) (by kernel_rfl) (by kernel_rfl) (by kernel_rfl) (fun _ _ _ h => by cases h.1) (YG.val (by rfl) (fun u hu => by have hc := HC10U.out u hu.1; go_simp)) ?_
        simp only [Act.put, List.setIfInBounds_toArray, List.set_cons_zero, List.set_cons_succ]
        refine wpX_take 2 (v := .int .i64 (xs.length : Int)) (oi := { dst := some 71, op := Op.call { callee := Callee.builtin Builtin.len, args := #[Operand.tmp 70], argTypes := #[24] }, type := 3, pos := "law.go:80", after := #[{ on := 1, ground := Ground.data }], guard := none }) (oL := { dst := none, op := Op.store 4 (Operand.tmp 9) (Operand.tmp 73), type := 0, pos := "law.go:80", after := #[{ on := 4, ground := Ground.data }, { on := 5, ground := Ground.chain }, { on := 0, ground := Ground.phase }, { on := 1, ground := Ground.phase }, { on := 2, ground := Ground.phase }, { on := 3, ground := Ground.phase }, { on := 4, ground := Ground.phase }, { on := 5, ground := Ground.phase }], guard := none }) (clo_s8 _ _) rfl rfl rfl (by kernel_rfl) (by kernel_rfl) (by kernel_rfl) (by kernel_rfl) (by kernel_rfl) (fun _ _ _ h => by cases h.1) (YG.val (by rfl) (fun _ _ => by go_simp)) ?_
        simp only [Act.put, List.setIfInBounds_toArray, List.set_cons_zero, List.set_cons_succ]
        refine wpX_take 3 (v := .int .i64 0) (oi := { dst := some 72, op := Op.move (Operand.tmp 16), type := 3, pos := "law.go:80", after := #[], guard := none }) (oL := { dst := none, op := Op.store 4 (Operand.tmp 9) (Operand.tmp 73), type := 0, pos := "law.go:80", after := #[{ on := 4, ground := Ground.data }, { on := 5, ground := Ground.chain }, { on := 0, ground := Ground.phase }, { on := 1, ground := Ground.phase }, { on := 2, ground := Ground.phase }, { on := 3, ground := Ground.phase }, { on := 4, ground := Ground.phase }, { on := 5, ground := Ground.phase }], guard := none }) (clo_s8 _ _) rfl rfl rfl (by kernel_rfl) (by kernel_rfl) (by kernel_rfl) (by kernel_rfl) (by kernel_rfl) (fun _ _ _ h => by cases h.1) (YG.val (by rfl) (fun _ _ => rfl)) ?_
        simp only [Act.put, List.setIfInBounds_toArray, List.set_cons_zero, List.set_cons_succ]
        refine wpX_take 4 (v := .bool true) (oi := { dst := some 73, op := Op.binOp BinOp.eql 3 (Operand.tmp 71) (Operand.tmp 72) 3, type := 4, pos := "law.go:80", after := #[{ on := 2, ground := Ground.data }, { on := 3, ground := Ground.data }], guard := none }) (oL := { dst := none, op := Op.store 4 (Operand.tmp 9) (Operand.tmp 73), type := 0, pos := "law.go:80", after := #[{ on := 4, ground := Ground.data }, { on := 5, ground := Ground.chain }, { on := 0, ground := Ground.phase }, { on := 1, ground := Ground.phase }, { on := 2, ground := Ground.phase }, { on := 3, ground := Ground.phase }, { on := 4, ground := Ground.phase }, { on := 5, ground := Ground.phase }], guard := none }) (clo_s8 _ _) rfl rfl rfl (by kernel_rfl) (by kernel_rfl) (by kernel_rfl) (by kernel_rfl) (by kernel_rfl) (fun _ _ _ h => by cases h.1) (YG.val (by rfl) (fun _ _ => by go_simp)) ?_
        simp only [Act.put, List.setIfInBounds_toArray, List.set_cons_zero, List.set_cons_succ]
        refine wpX_step 5 (o := { dst := none, op := Op.store 24 (Operand.tmp 8) (Operand.tmp 69), type := 0, pos := "law.go:80", after := #[{ on := 0, ground := Ground.data }, { on := 0, ground := Ground.phase }, { on := 1, ground := Ground.textOnly Departure.inlinedCapture }, { on := 2, ground := Ground.textOnly Departure.lateStoresUnsure }, { on := 3, ground := Ground.textOnly Departure.lateStores }, { on := 4, ground := Ground.textOnly Departure.inlinedCapture }], guard := none }) rfl rfl (by kernel_rfl) (by rfl) (fun u2 hS2 K hK => ?_)
        have HK := Lib.hid hK
        have HS2 := Lib.hid hS2
        clear hK hS2
        obtain ⟨v8, hr8u⟩ := HS2.out.2
        have c8u := Row.cell hr8u 0
        have f8u := Row.frozen hr8u 0
        simp at c8u
        refine wp_skip_op (w1 := u2.setCell ⟨b8, 0, none⟩ (.slice ap xs.length cp)) (by go_simp) ?_
        obtain ⟨u3, hu3⟩ : ∃ u3, u3 = u2.setCell ⟨b8, 0, none⟩ (.slice ap xs.length cp) := ⟨_, rfl⟩
        rw [← hu3]
        have hg3 : u2.grownBy u3 (some b8) := hu3 ▸ grownBy_setCell _ _ _ _
        have hr83 : Row u3 b8 24 #[.slice ap xs.length cp] := hu3 ▸ Row.setc hr8u 0 _
        refine HK.out (fun u => S8 b8 WD u ∧ Row u b8 24 #[.slice ap xs.length cp]) _ _ ⟨⟨HS2.out.1.trans (Ch.ofSome (S := fun g => g = b8) hg3 rfl) (fun _ _ h => h), _, hr83⟩, hr83⟩ (fun u h => h.1) (clo_and (clo_s8 _ _) (clo_row _ _ _)) ?_
        simp only [Act.put, List.setIfInBounds_toArray, List.set_cons_zero, List.set_cons_succ]
        clear HK HS2 hr8u c8u f8u hu3 hg3 hr83
        refine wpX_last (oL := { dst := none, op := Op.store 4 (Operand.tmp 9) (Operand.tmp 73), type := 0, pos := "law.go:80", after := #[{ on := 4, ground := Ground.data }, { on := 5, ground := Ground.chain }, { on := 0, ground := Ground.phase }, { on := 1, ground := Ground.phase }, { on := 2, ground := Ground.phase }, { on := 3, ground := Ground.phase }, { on := 4, ground := Ground.phase }, { on := 5, ground := Ground.phase }], guard := none }) rfl (by kernel_rfl) (by kernel_rfl) (by rfl) (fun u4 hS4 K4 hK4 => ?_)
        have hr9u : Row u4 b9 4 #[.bool false] := HR9U.out u4 hS4.1.1
        have c9u := Row.cell hr9u 0
        have f9u := Row.frozen hr9u 0
        simp at c9u
        refine wp_skip_op (w1 := u4.setCell ⟨b9, 0, none⟩ (.bool true)) (by go_simp) (hK4 _ _ ?_)
        simp only [Act.put]
        obtain ⟨u5, hu5⟩ : ∃ u5, u5 = u4.setCell ⟨b9, 0, none⟩ (.bool true) := ⟨_, rfl⟩
        rw [← hu5]
        have hg5 : u4.grownBy u5 (some b9) := hu5 ▸ grownBy_setCell _ _ _ _
        have hr95 : Row u5 b9 4 #[.bool true] := hu5 ▸ Row.setc hr9u 0 _
        have hr85 : Row u5 b8 24 #[.slice ap xs.length cp] := hS4.2.grownNe hg5 (by omega)
        have hch5 : Ch (fun g => g = b8 ∨ g = b9) WD u5 := (hS4.1.1.mono (fun _ _ h => .inl h)).trans (Ch.ofSome (S := fun g => g = b8 ∨ g = b9) hg5 (.inr rfl)) (fun _ _ h => h)
        have HR95 := Lib.hid hr95
        have HR85 := Lib.hid hr85
        have HCH5 := Lib.hid hch5
        clear hS4 hK4 hr9u c9u f9u hu5 hg5 hr95 hr85 hch5
        refine ⟨rfl, ?_⟩
        show Exit.then _ _ _ _ _
        have HG5 := Lib.hid (Ch.fresh HGD.out HCH5.out (fun g hg hT => by rcases hT with h | h <;> omega))
        have HK5 := Lib.hid ((HCH5.out.block D (Array.getElem?_eq_some_iff.1 HKD.out).1 (fun hT => by have := HDW.out; rcases hT with h | h <;> omega)).trans HKD.out)
        have HLI5 := Lib.hid (HLID.out.chS HCH5.out (fun g hi h => by have h1 := (Own.inn HLID.out.outer hi).1; rcases h with h | h <;> omega) (fun j hj g hg h => by have h1 := (Own.inn (HLID.out.inner j hj (by have := HLID.out.len; omega)) hg).1; rcases h with h | h <;> omega))
        go_wp2_with fail
        refine ⟨by simp, .inl ⟨_, _, rfl, run_takeDeferred HK5.out, ?_⟩⟩
        have hnc : ∀ r, some D = some r → 0 ≤ r ∧ ∃ o : Obj, u5.heap[r]? = some o ∧ o.isCells = false := fun r e => by cases e; exact ⟨Nat.zero_le _, _, HK5.out, rfl⟩
        refine ⟨_, results_cell2 rfl _ _ b8 b9 _ _ rfl rfl (HR85.out.nc (b0 := 0) (grownBy_putObj' _ D _) hnc) (HR95.out.nc (b0 := 0) (grownBy_putObj' _ D _) hnc), ap, cp, L, by rw [HNL.out], ?_, grown_nc HG5.out (grownBy_putObj' _ D _) (Nat.le_refl _) (fun r e => by cases e; exact ⟨Nat.le_trans HG7.out.size HDW.out, _, HK5.out, rfl⟩)⟩
        rw [HBS.out, HNL.out]
        exact (HLI5.out.nc (b0 := 0) (grownBy_putObj' _ D _) hnc).mono' HG7.out.size

    · have hxe : xs = [] := by
        have h := HS.out
        unfold sgs at h
        rw [if_neg (fun h => hfit h.1)] at h
        simpa using h
      have HFD := Lib.hid (decide_eq_false hfit)
      have hx0 : ((xs.length : Int) == 0) = true := by rw [hxe]; rfl
      clear hxe
      clear hfit
      go_upto_region 14 with (first
        | (refine wpList_load_row rfl 47 _ rfl b4 rfl 47 _ (0, 0) _ R4.out Try.underlying47 rfl size_shape' ?_)
        | (go_at_call 37; refine (HFF.out W).mono ?_; rintro e WD ⟨rfl, g⟩; have GD := Lib.hid g; rw [HFD.out]; clear g))
      have HGD := Lib.hid (grownBy_trans HG.out GD.out)
      have HKD := Lib.hid ((GD.out.block _ (Array.getElem?_eq_some_iff.1 HK.out).1 (by simp)).trans HK.out)
      have R8U := Lib.hid (R8.out.grown GD.out)
      have R9U := Lib.hid (R9.out.grown GD.out)
      have R10U := Lib.hid (R10.out.grown GD.out)
      have HLID := Lib.hid (HLI.out.grown GD.out)
      have hr9u : ∀ u, Ch (fun g => g = b8) WD u → Row u b9 4 #[.bool false] := fun u hu => R9U.out.ch hu (by omega)
      have hc10u : ∀ u, Ch (fun g => g = b8) WD u → u.cell? ⟨b10, 0, none⟩ = some (.slice ap xs.length cp) := fun u hu => by
        have h := Row.cell (R10U.out.ch hu (by omega)) 0
        simpa using h
      have HR9U := Lib.hid hr9u
      have HC10U := Lib.hid hc10u
      clear hr9u hc10u
      refine wp_normal ?_
      refine wp_regionX (S8 b8 WD) 6 (by kernel_rfl) ⟨Ch.ofNone (grownBy_drewN WD 1 none) _, _, R8U.out.grown (grownBy_drewN WD 1 none)⟩ ?_
      refine wpX_take 0 (v := .slice ap xs.length cp) (oi := { dst := some 69, op := Op.load 24 (Operand.tmp 10), type := 24, pos := "law.go:80", after := #[], guard := none }) (oL := { dst := none, op := Op.store 4 (Operand.tmp 9) (Operand.tmp 73), type := 0, pos := "law.go:80", after := #[{ on := 4, ground := Ground.data }, { on := 5, ground := Ground.chain }, { on := 0, ground := Ground.phase }, { on := 1, ground := Ground.phase }, { on := 2, ground := Ground.phase }, { on := 3, ground := Ground.phase }, { on := 4, ground := Ground.phase }, { on := 5, ground := Ground.phase }], guard := none }) (clo_s8 _ _) rfl rfl rfl (by kernel_rfl) (by kernel_rfl) (by kernel_rfl) (by kernel_rfl) (by kernel_rfl) (fun _ _ _ h => by cases h.1) (YG.val (by rfl) (fun u hu => by have hc := HC10U.out u hu.1; go_simp)) ?_
      simp only [Act.put, List.setIfInBounds_toArray, List.set_cons_zero, List.set_cons_succ]
      refine wpX_take 1 (v := .slice ap xs.length cp) (oi := { dst := some 70, op := Op.load 24 (Operand.tmp 10), type := 24, pos := "law.go:80", after := #[], guard := none }) (oL := { dst := none, op := Op.store 4 (Operand.tmp 9) (Operand.tmp 73), type := 0, pos := "law.go:80", after := #[{ on := 4, ground := Ground.data }, { on := 5, ground := Ground.chain }, { on := 0, ground := Ground.phase }, { on := 1, ground := Ground.phase }, { on := 2, ground := Ground.phase }, { on := 3, ground := Ground.phase }, { on := 4, ground := Ground.phase }, { on := 5, ground := Ground.phase }], guard := none }) (clo_s8 _ _) rfl rfl rfl (by kernel_rfl) (by kernel_rfl) (by kernel_rfl) (by kernel_rfl) (by kernel_rfl) (fun _ _ _ h => by cases h.1) (YG.val (by rfl) (fun u hu => by have hc := HC10U.out u hu.1; go_simp)) ?_
      simp only [Act.put, List.setIfInBounds_toArray, List.set_cons_zero, List.set_cons_succ]
      refine wpX_take 2 (v := .int .i64 (xs.length : Int)) (oi := { dst := some 71, op := Op.call { callee := Callee.builtin Builtin.len, args := #[Operand.tmp 70], argTypes := #[24] }, type := 3, pos := "law.go:80", after := #[{ on := 1, ground := Ground.data }], guard := none }) (oL := { dst := none, op := Op.store 4 (Operand.tmp 9) (Operand.tmp 73), type := 0, pos := "law.go:80", after := #[{ on := 4, ground := Ground.data }, { on := 5, ground := Ground.chain }, { on := 0, ground := Ground.phase }, { on := 1, ground := Ground.phase }, { on := 2, ground := Ground.phase }, { on := 3, ground := Ground.phase }, { on := 4, ground := Ground.phase }, { on := 5, ground := Ground.phase }], guard := none }) (clo_s8 _ _) rfl rfl rfl (by kernel_rfl) (by kernel_rfl) (by kernel_rfl) (by kernel_rfl) (by kernel_rfl) (fun _ _ _ h => by cases h.1) (YG.val (by rfl) (fun _ _ => by go_simp)) ?_
      simp only [Act.put, List.setIfInBounds_toArray, List.set_cons_zero, List.set_cons_succ]
      refine wpX_take 3 (v := .int .i64 0) (oi := { dst := some 72, op := Op.move (Operand.tmp 16), type := 3, pos := "law.go:80", after := #[], guard := none }) (oL := { dst := none, op := Op.store 4 (Operand.tmp 9) (Operand.tmp 73), type := 0, pos := "law.go:80", after := #[{ on := 4, ground := Ground.data }, { on := 5, ground := Ground.chain }, { on := 0, ground := Ground.phase }, { on := 1, ground := Ground.phase }, { on := 2, ground := Ground.phase }, { on := 3, ground := Ground.phase }, { on := 4, ground := Ground.phase }, { on := 5, ground := Ground.phase }], guard := none }) (clo_s8 _ _) rfl rfl rfl (by kernel_rfl) (by kernel_rfl) (by kernel_rfl) (by kernel_rfl) (by kernel_rfl) (fun _ _ _ h => by cases h.1) (YG.val (by rfl) (fun _ _ => rfl)) ?_
      simp only [Act.put, List.setIfInBounds_toArray, List.set_cons_zero, List.set_cons_succ]
      refine wpX_take 4 (v := .bool true) (oi := { dst := some 73, op := Op.binOp BinOp.eql 3 (Operand.tmp 71) (Operand.tmp 72) 3, type := 4, pos := "law.go:80", after := #[{ on := 2, ground := Ground.data }, { on := 3, ground := Ground.data }], guard := none }) (oL := { dst := none, op := Op.store 4 (Operand.tmp 9) (Operand.tmp 73), type := 0, pos := "law.go:80", after := #[{ on := 4, ground := Ground.data }, { on := 5, ground := Ground.chain }, { on := 0, ground := Ground.phase }, { on := 1, ground := Ground.phase }, { on := 2, ground := Ground.phase }, { on := 3, ground := Ground.phase }, { on := 4, ground := Ground.phase }, { on := 5, ground := Ground.phase }], guard := none }) (clo_s8 _ _) rfl rfl rfl (by kernel_rfl) (by kernel_rfl) (by kernel_rfl) (by kernel_rfl) (by kernel_rfl) (fun _ _ _ h => by cases h.1) (YG.val (by rfl) (fun _ _ => by go_simp)) ?_
      simp only [Act.put, List.setIfInBounds_toArray, List.set_cons_zero, List.set_cons_succ]
      refine wpX_step 5 (o := { dst := none, op := Op.store 24 (Operand.tmp 8) (Operand.tmp 69), type := 0, pos := "law.go:80", after := #[{ on := 0, ground := Ground.data }, { on := 0, ground := Ground.phase }, { on := 1, ground := Ground.textOnly Departure.inlinedCapture }, { on := 2, ground := Ground.textOnly Departure.lateStoresUnsure }, { on := 3, ground := Ground.textOnly Departure.lateStores }, { on := 4, ground := Ground.textOnly Departure.inlinedCapture }], guard := none }) rfl rfl (by kernel_rfl) (by rfl) (fun u2 hS2 K hK => ?_)
      have HK := Lib.hid hK
      have HS2 := Lib.hid hS2
      clear hK hS2
      obtain ⟨v8, hr8u⟩ := HS2.out.2
      have c8u := Row.cell hr8u 0
      have f8u := Row.frozen hr8u 0
      simp at c8u
      refine wp_skip_op (w1 := u2.setCell ⟨b8, 0, none⟩ (.slice ap xs.length cp)) (by go_simp) ?_
      obtain ⟨u3, hu3⟩ : ∃ u3, u3 = u2.setCell ⟨b8, 0, none⟩ (.slice ap xs.length cp) := ⟨_, rfl⟩
      rw [← hu3]
      have hg3 : u2.grownBy u3 (some b8) := hu3 ▸ grownBy_setCell _ _ _ _
      have hr83 : Row u3 b8 24 #[.slice ap xs.length cp] := hu3 ▸ Row.setc hr8u 0 _
      refine HK.out (fun u => S8 b8 WD u ∧ Row u b8 24 #[.slice ap xs.length cp]) _ _ ⟨⟨HS2.out.1.trans (Ch.ofSome (S := fun g => g = b8) hg3 rfl) (fun _ _ h => h), _, hr83⟩, hr83⟩ (fun u h => h.1) (clo_and (clo_s8 _ _) (clo_row _ _ _)) ?_
      simp only [Act.put, List.setIfInBounds_toArray, List.set_cons_zero, List.set_cons_succ]
      clear HK HS2 hr8u c8u f8u hu3 hg3 hr83
      refine wpX_last (oL := { dst := none, op := Op.store 4 (Operand.tmp 9) (Operand.tmp 73), type := 0, pos := "law.go:80", after := #[{ on := 4, ground := Ground.data }, { on := 5, ground := Ground.chain }, { on := 0, ground := Ground.phase }, { on := 1, ground := Ground.phase }, { on := 2, ground := Ground.phase }, { on := 3, ground := Ground.phase }, { on := 4, ground := Ground.phase }, { on := 5, ground := Ground.phase }], guard := none }) rfl (by kernel_rfl) (by kernel_rfl) (by rfl) (fun u4 hS4 K4 hK4 => ?_)
      have hr9u : Row u4 b9 4 #[.bool false] := HR9U.out u4 hS4.1.1
      have c9u := Row.cell hr9u 0
      have f9u := Row.frozen hr9u 0
      simp at c9u
      refine wp_skip_op (w1 := u4.setCell ⟨b9, 0, none⟩ (.bool true)) (by go_simp) (hK4 _ _ ?_)
      simp only [Act.put]
      obtain ⟨u5, hu5⟩ : ∃ u5, u5 = u4.setCell ⟨b9, 0, none⟩ (.bool true) := ⟨_, rfl⟩
      rw [← hu5]
      have hg5 : u4.grownBy u5 (some b9) := hu5 ▸ grownBy_setCell _ _ _ _
      have hr95 : Row u5 b9 4 #[.bool true] := hu5 ▸ Row.setc hr9u 0 _
      have hr85 : Row u5 b8 24 #[.slice ap xs.length cp] := hS4.2.grownNe hg5 (by omega)
      have hch5 : Ch (fun g => g = b8 ∨ g = b9) WD u5 := (hS4.1.1.mono (fun _ _ h => .inl h)).trans (Ch.ofSome (S := fun g => g = b8 ∨ g = b9) hg5 (.inr rfl)) (fun _ _ h => h)
      have HR95 := Lib.hid hr95
      have HR85 := Lib.hid hr85
      have HCH5 := Lib.hid hch5
      clear hS4 hK4 hr9u c9u f9u hu5 hg5 hr95 hr85 hch5
      refine ⟨rfl, ?_⟩
      show Exit.then _ _ _ _ _
      have HG5 := Lib.hid (Ch.fresh HGD.out HCH5.out (fun g hg hT => by rcases hT with h | h <;> omega))
      have HK5 := Lib.hid ((HCH5.out.block D (Array.getElem?_eq_some_iff.1 HKD.out).1 (fun hT => by have := HDW.out; rcases hT with h | h <;> omega)).trans HKD.out)
      have HLI5 := Lib.hid (HLID.out.chS HCH5.out (fun g hi h => by have h1 := (Own.inn HLID.out.outer hi).1; rcases h with h | h <;> omega) (fun j hj g hg h => by have h1 := (Own.inn (HLID.out.inner j hj (by have := HLID.out.len; omega)) hg).1; rcases h with h | h <;> omega))
      go_wp2_with fail
      refine ⟨by simp, .inl ⟨_, _, rfl, run_takeDeferred HK5.out, ?_⟩⟩
      have hnc : ∀ r, some D = some r → 0 ≤ r ∧ ∃ o : Obj, u5.heap[r]? = some o ∧ o.isCells = false := fun r e => by cases e; exact ⟨Nat.zero_le _, _, HK5.out, rfl⟩
      refine ⟨_, results_cell2 rfl _ _ b8 b9 _ _ rfl rfl (HR85.out.nc (b0 := 0) (grownBy_putObj' _ D _) hnc) (HR95.out.nc (b0 := 0) (grownBy_putObj' _ D _) hnc), ap, cp, L, by rw [HNL.out], ?_, grown_nc HG5.out (grownBy_putObj' _ D _) (Nat.le_refl _) (fun r e => by cases e; exact ⟨Nat.le_trans HG7.out.size HDW.out, _, HK5.out, rfl⟩)⟩
      rw [HBS.out, HNL.out]
      exact (HLI5.out.nc (b0 := 0) (grownBy_putObj' _ D _) hnc).mono' HG7.out.size

end Go.Proofs.Ytfboddnpkaiifaa
/- The law CutSegments. Printed by gens/cutsegments.py. -/
namespace Go.Proofs.Ytfboddnpkaiifaa
open Go.RowKit Go.Shelf
attribute [local go_sem] Oper.semAt_some

theorem run_store_funcL (P : Program) (w : World) (a : Addr) (m : Mode) (fn : Fn) (first captured : Array Value) : (store a (.func fn first captured) m).run P w = stored P w a (.func fn first captured) m := run_store P w a _ m rfl
attribute [local go_sem] run_store_funcL
/-- what a call to Segments has told -/
structure SgX where
  B : Nat
  top : Nat
  c1 : Nat
  c2 : Nat
  ac : Option Addr
  cc : Nat
def SgX.T (s : Sh) (n : Nat) (l : List UInt8) (x : SgX) (u : World) : Prop := Sgk u x.B x.c1 x.c2 s x.ac n x.cc l ∧ x.top ≤ u.heap.size ∧ ∀ k, Chk.S x.c1 x.c2 x.ac x.cc k → k < x.top
theorem SgX.clo (s : Sh) (n : Nat) (l : List UInt8) (x : SgX) : Clo (SgX.T s n l x) := fun _ _ h g => ⟨h.1.kept (KeptS.of g), Nat.le_trans h.2.1 g.size, h.2.2⟩
theorem sgs_small (s : Sh) (l : List UInt8) : (sgs s l).length ≤ 512 ∧ ∀ p ∈ sgs s l, p.2.length ≤ l.length := by
  by_cases h : fits s ∧ (l.length : Int) = s.size
  · obtain ⟨S, K, G, N⟩ := seg_num h.1 h.2
    refine ⟨by rw [sgs_len h.1 h.2 N.segs]; exact N.S1, fun p hp => ?_⟩
    unfold sgs at hp
    rw [if_pos h, List.mem_map] at hp
    obtain ⟨j, _, rfl⟩ := hp
    exact sgR_len s l _
  · unfold sgs
    rw [if_neg h]
    simp
/-- append(l, m...) of lists of lists -/
theorem run_appL (w : World) {base : Nat} {a : Option Addr} {n c : Nat} {L : List Sl} (hown : SOwn w base a n c L) {b' : Nat} {sa : Option Addr} {m sc : Nat} {M : List Sl} (hs : SOwn w b' sa m sc M) (hb : n + m ≤ 4000000000) (hbase : base ≤ w.heap.size) (ty : TypeId) :
    ∃ a' c' w1, (Builtin.append_ #[24, 24] ty #[.slice a n c, .slice sa m sc]).run Try.prog w = .ok (.slice a' (n + m) c') w1 ∧ SOwn w1 base a' (n + m) c' (L ++ M) ∧ Ch (In a c) w w1 ∧ (∀ g, In a' c' g → In a c g ∨ w.heap.size ≤ g) := by
  have hml := SOwn.len hs
  rcases Nat.eq_zero_or_pos m with h0 | h0
  · subst h0
    obtain rfl : M = [] := List.eq_nil_of_length_eq_zero hml
    have hc := (Own.cap hown).1
    refine ⟨a, c, w, ?_, by simpa using hown, Ch.refl _ _, fun g h => .inl h⟩
    obtain ⟨i, hi, hz, hs', hb'⟩ := elS.info
    have hu := Try.underlying24
    cases a <;> cases sa <;> simp [Builtin.append_, run_underlying Try.underlying24, sizeOf, typeInfo, hi, hs', Builtin.lenOf, Builtin.firstCells, loadCells, loadCellsFrom, hc]
    all_goals simp [storeCells, Result.andThen]
  · have hcp := (Own.cap hs).1
    obtain ⟨g, rfl, _, _⟩ := Own.block hs (by omega)
    obtain ⟨g', c', w1, hr, ho, hg⟩ := run_app (P := Try.prog) (ty := ty) w elS hown ⟨g, 0, none⟩ m sc (M.map Sl.val) (by rw [List.length_map, hml]; omega) (fun j u hj => by
      have hjl : j < (M.map Sl.val).length := by
        rcases Nat.lt_or_ge j (M.map Sl.val).length with h | h
        · exact h
        · rw [List.getElem?_eq_none h] at hj; cases hj
      rw [List.getElem?_eq_getElem hjl] at hj
      injection hj with hj
      obtain ⟨g2, e, _, _, hc, _⟩ := Own.cell hs j hjl
      injection e with e; injection e with e
      subst e
      have ha : (⟨g, 0, none⟩ : Addr).add j = ⟨g, j, none⟩ := by unfold Addr.add; split <;> simp_all
      rw [ha, hc, hj]) (fun u hu => by
      rw [List.mem_map] at hu
      obtain ⟨q, _, rfl⟩ := hu
      rfl) (by unfold maxLen; omega) (by omega) hbase (fun _ _ _ => trivial) h0
    exact ⟨some ⟨g', 0, none⟩, c', w1, hr, by unfold SOwn; rw [List.map_append]; exact ho, hg.ch, fun q h => hg.inn h⟩
/-- what stands while the segments are gone through once more -/
def SeI (w : World) (b3 b4 b8 b12 : Nat) (s : Sh) (a : Option Addr) (n c : Nat) (l : List UInt8) (x : SgX) (Bf Bw : Nat) (af : Option Addr) (mf cf : Nat) (Lf : List Sl) (tf : List (List UInt8)) (aw : Option Addr) (mw cw : Nat) (Lw : List Sl) (tw : List (List UInt8)) (W : World) : Prop :=
  Row W b3 47 #[.int .i64 s.k, .int .i64 s.n, .int .i64 s.seg, .int .i64 s.size, .int .i64 s.segs, .int .i64 s.tail, .int .i64 s.block, .int .i64 s.last] ∧ Row W b4 22 #[.slice a n c] ∧ Row W b8 69 #[.func (.func 59) #[] #[.pointer (some ⟨x.c1, 0, none⟩), .pointer (some ⟨x.c2, 0, none⟩)]] ∧ Row W b12 4 #[.bool true] ∧ Sgk W x.B x.c1 x.c2 s x.ac n x.cc l ∧ LIs W Bf af mf cf tf Lf ∧ LIs W Bw aw mw cw tw Lw ∧ w.grownBy W none
theorem SeI.own {w : World} {b3 b4 b8 b12 b0 : Nat} {s : Sh} {a : Option Addr} {n c : Nat} {l : List UInt8} {x : SgX} {Bf Bw : Nat} {af aw : Option Addr} {mf cf mw cw : Nat} {Lf Lw : List Sl} {tf tw : List (List UInt8)} (hb : w.heap.size ≤ b0) {A B : World} {row : Option Nat}
    (h : SeI w b3 b4 b8 b12 s a n c l x Bf Bw af mf cf Lf tf aw mw cw Lw tw A) (hg : A.grownBy B row) (hr : ∀ r, row = some r → b0 ≤ r ∧ ∃ o : Obj, A.heap[r]? = some o ∧ o.isCells = false) : SeI w b3 b4 b8 b12 s a n c l x Bf Bw af mf cf Lf tf aw mw cw Lw tw B := by
  obtain ⟨h1, h2, h3, h4, h5, h6, h7, h8⟩ := h
  exact ⟨h1.nc hg hr, h2.nc hg hr, h3.nc hg hr, h4.nc hg hr, ⟨h5.shape.nc hg hr, h5.box.nc hg hr, h5.own.nc hg hr, h5.above⟩, h6.nc hg hr, h7.nc hg hr, grown_nc h8 hg hb hr⟩

set_option maxRecDepth 100000 in
set_option maxHeartbeats 6000000 in
theorem cutSegs_walk (s : Sh) (hs : s.Wf) (a : Option Addr) (c n : Nat) (l : List UInt8) (X : Nat) (hX : X < 65536) (w : World) (ha : BLies w a l) (hln : l.length = n) (hnc : n ≤ c) (hn : n ≤ 1048576) :
    Calls Try.prog 12 #[s.val, .slice a n c, .int .u16 (X : Int)] w fun e w' => e = .returned (.bool true) ∧ w.grownBy w' none := by
  obtain ⟨iq, hiq, hiqz, hiqs, _⟩ := info_parts (show (Try.prog.info? 69).map (fun i => (i.zero, i.size, i.bytes)) = some (some .nilFunc, 1, 8) by kernel_rfl)
  obtain ⟨ib, hib, hibz, hibs, _⟩ := info_parts (show (Try.prog.info? 4).map (fun i => (i.zero, i.size, i.bytes)) = some (some (.bool false), 1, 1) by kernel_rfl)
  have HA := Lib.hid ha
  have HLN := Lib.hid hln
  have HWF := Lib.hid hs
  clear ha hln hs
  unfold Sh.val
  refine calls_of_wp_marks Try.func12 rfl ?_
  simp only [Try.ntmps12, List.size_toArray, List.length_cons, List.length_nil, Nat.reduceAdd, Nat.reduceSub, Array.replicate_succ, Array.replicate_zero, List.push_toArray, List.append_toArray, List.nil_append, List.cons_append]
  go_upto_region 1 with (first
    | (refine wpList_boxed rfl rfl #[.int .i64 s.k, .int .i64 s.n, .int .i64 s.seg, .int .i64 s.size, .int .i64 s.segs, .int .i64 s.tail, .int .i64 s.block, .int .i64 s.last] rfl ?_; intro w1 hs1 hg1 hr1; have HG1 := Lib.hid hg1; have H31 := Lib.hid hr1; clear hs1 hg1 hr1)
    | (refine wpList_box1 rfl rfl (.slice a n c) rfl rfl ?_; intro w2 hs2 hg2 hr2; have HG := Lib.hid (grownBy_trans HG1.out hg2); have R3 := Lib.hid (H31.out.grown hg2); have R4 := Lib.hid hr2; clear hs2 hg2 hr2))
  obtain ⟨b3, hb3⟩ : ∃ b3, b3 = w.heap.size := ⟨_, rfl⟩
  obtain ⟨b4, hb4⟩ : ∃ b4, b4 = w1.heap.size := ⟨_, rfl⟩
  have q3 : w.heap.size ≤ b3 := by rw [hb3]; exact Nat.le_refl _
  have q4 : b3 < b4 := by rw [hb3, hb4]; exact H31.out.lt
  have q5 : b4 < w2.heap.size := by rw [hb4]; exact R4.out.lt
  rw [← hb3] at R3 ⊢
  rw [← hb4] at R4 ⊢
  clear hb3 hb4 HG1 H31
  have c4 := Row.cell R4.out 0
  simp at c4
  go_wp2_with fail
  clear c4
  refine (lent_n _ _ _ l _ (HA.out.grown HG.out) HLN.out (by omega)).mono ?_
  rintro e w3 ⟨gB, cB, rfl, oF, g⟩
  have hccB := oF.cap.1
  have YgB : Hid (w2.heap.size ≤ gB ∧ gB < w3.heap.size) := Lib.hid (by obtain ⟨g', e, h1, h2⟩ := Own.block oF (by omega); injection e with e; injection e with e; subst e; exact ⟨h1, h2⟩)
  have HFB := Lib.hid oF
  clear oF
  have Z3 := Lib.hid g.size
  replace HG := Lib.hid (grownBy_trans HG.out g)
  replace R3 := Lib.hid (R3.out.grown g)
  replace R4 := Lib.hid (R4.out.grown g)
  clear g
  go_upto_region 2 with fail
  refine wp_normal ?_
  refine wp_regionX (fun u => w3.grownBy u none) 7 (by kernel_rfl) (grownBy_drewN w3 1 none) ?_
  refine wpX_take 0 (v := .agg #[.int .i64 s.k, .int .i64 s.n, .int .i64 s.seg, .int .i64 s.size, .int .i64 s.segs, .int .i64 s.tail, .int .i64 s.block, .int .i64 s.last]) (oi := { dst := some 19, op := Op.load 47 (Operand.tmp 3), type := 47, pos := "law.go:86", after := #[], guard := none }) (oL := { dst := none, op := Op.store 69 (Operand.tmp 8) (Operand.tmp 24), type := 0, pos := "law.go:86", after := #[{ on := 6, ground := Ground.data }, { on := 5, ground := Ground.data }, { on := 5, ground := Ground.chain }, { on := 0, ground := Ground.phase }, { on := 1, ground := Ground.phase }, { on := 2, ground := Ground.phase }, { on := 3, ground := Ground.phase }, { on := 4, ground := Ground.phase }, { on := 5, ground := Ground.phase }, { on := 6, ground := Ground.phase }], guard := none }) (clo_grown _) rfl rfl rfl (by kernel_rfl) (by kernel_rfl) (by kernel_rfl) (by kernel_rfl) (by kernel_rfl) (fun _ _ _ h => by cases h.1) (YG.val (by rfl) (fun u hu => run_load_op u _ 47 (.tmp 3) rfl b3 rfl 47 #[.int .i64 s.k, .int .i64 s.n, .int .i64 s.seg, .int .i64 s.size, .int .i64 s.segs, .int .i64 s.tail, .int .i64 s.block, .int .i64 s.last] (R3.out.grown hu) Try.underlying47 rfl size_shape')) ?_
  simp only [Act.put, List.setIfInBounds_toArray, List.set_cons_zero, List.set_cons_succ]
  refine wpX_take 1 (v := .slice (some ⟨gB, 0, none⟩) (n + 70) cB) (oi := { dst := some 20, op := Op.move (Operand.tmp 7), type := 22, pos := "law.go:86", after := #[], guard := none }) (oL := { dst := none, op := Op.store 69 (Operand.tmp 8) (Operand.tmp 24), type := 0, pos := "law.go:86", after := #[{ on := 6, ground := Ground.data }, { on := 5, ground := Ground.data }, { on := 5, ground := Ground.chain }, { on := 0, ground := Ground.phase }, { on := 1, ground := Ground.phase }, { on := 2, ground := Ground.phase }, { on := 3, ground := Ground.phase }, { on := 4, ground := Ground.phase }, { on := 5, ground := Ground.phase }, { on := 6, ground := Ground.phase }], guard := none }) (clo_grown _) rfl rfl rfl (by kernel_rfl) (by kernel_rfl) (by kernel_rfl) (by kernel_rfl) (by kernel_rfl) (fun _ _ _ h => by cases h.1) (YG.val (by rfl) (fun _ _ => rfl)) ?_
  simp only [Act.put, List.setIfInBounds_toArray, List.set_cons_zero, List.set_cons_succ]
  refine wpX_take 2 (v := .slice a n c) (oi := { dst := some 21, op := Op.load 22 (Operand.tmp 4), type := 22, pos := "law.go:86", after := #[], guard := none }) (oL := { dst := none, op := Op.store 69 (Operand.tmp 8) (Operand.tmp 24), type := 0, pos := "law.go:86", after := #[{ on := 6, ground := Ground.data }, { on := 5, ground := Ground.data }, { on := 5, ground := Ground.chain }, { on := 0, ground := Ground.phase }, { on := 1, ground := Ground.phase }, { on := 2, ground := Ground.phase }, { on := 3, ground := Ground.phase }, { on := 4, ground := Ground.phase }, { on := 5, ground := Ground.phase }, { on := 6, ground := Ground.phase }], guard := none }) (clo_grown _) rfl rfl rfl (by kernel_rfl) (by kernel_rfl) (by kernel_rfl) (by kernel_rfl) (by kernel_rfl) (fun _ _ _ h => by cases h.1) (YG.val (by rfl) (fun u hu => by have c4 := Row.cell (R4.out.grown hu) 0; simp at c4; go_simp)) ?_
  simp only [Act.put, List.setIfInBounds_toArray, List.set_cons_zero, List.set_cons_succ]
  refine wpX_take 3 (v := .int .i64 (n : Int)) (oi := { dst := some 22, op := Op.call { callee := Callee.builtin Builtin.len, args := #[Operand.tmp 21], argTypes := #[22] }, type := 3, pos := "law.go:86", after := #[{ on := 2, ground := Ground.data }], guard := none }) (oL := { dst := none, op := Op.store 69 (Operand.tmp 8) (Operand.tmp 24), type := 0, pos := "law.go:86", after := #[{ on := 6, ground := Ground.data }, { on := 5, ground := Ground.data }, { on := 5, ground := Ground.chain }, { on := 0, ground := Ground.phase }, { on := 1, ground := Ground.phase }, { on := 2, ground := Ground.phase }, { on := 3, ground := Ground.phase }, { on := 4, ground := Ground.phase }, { on := 5, ground := Ground.phase }, { on := 6, ground := Ground.phase }], guard := none }) (clo_grown _) rfl rfl rfl (by kernel_rfl) (by kernel_rfl) (by kernel_rfl) (by kernel_rfl) (by kernel_rfl) (fun _ _ _ h => by cases h.1) (YG.val (by rfl) (fun _ _ => by go_simp)) ?_
  simp only [Act.put, List.setIfInBounds_toArray, List.set_cons_zero, List.set_cons_succ]
  refine wpX_take 4 (v := .slice (some ⟨gB, 0, none⟩) n cB) (oi := { dst := some 23, op := Op.slice 22 (Operand.tmp 20) none (some (Operand.tmp 22)) none, type := 22, pos := "law.go:86", after := #[{ on := 1, ground := Ground.data }, { on := 3, ground := Ground.data }], guard := none }) (oL := { dst := none, op := Op.store 69 (Operand.tmp 8) (Operand.tmp 24), type := 0, pos := "law.go:86", after := #[{ on := 6, ground := Ground.data }, { on := 5, ground := Ground.data }, { on := 5, ground := Ground.chain }, { on := 0, ground := Ground.phase }, { on := 1, ground := Ground.phase }, { on := 2, ground := Ground.phase }, { on := 3, ground := Ground.phase }, { on := 4, ground := Ground.phase }, { on := 5, ground := Ground.phase }, { on := 6, ground := Ground.phase }], guard := none }) (clo_grown _) rfl rfl rfl (by kernel_rfl) (by kernel_rfl) (by kernel_rfl) (by kernel_rfl) (by kernel_rfl) (fun _ _ _ h => by cases h.1) (YG.val (by rfl) (fun u _ => run_pre_op u _ (.tmp 20) (.tmp 22) rfl gB (n + 70) cB n rfl rfl (by omega))) ?_
  simp only [Act.put, List.setIfInBounds_toArray, List.set_cons_zero, List.set_cons_succ]
  have hpre := HFB.out.lies.take n
  rw [lent_take l n HLN.out] at hpre
  have HPRE := Lib.hid hpre
  clear hpre
  refine wpX_callAlloc (X := SgX) 5 6 (oi := { dst := some 24, op := Op.call { callee := Callee.value (Operand.func 48), args := #[Operand.tmp 19, Operand.tmp 23], argTypes := #[47, 22] }, type := 69, pos := "law.go:86", after := #[{ on := 0, ground := Ground.data }, { on := 4, ground := Ground.data }], guard := none }) (oj := { dst := some 8, op := Op.alloc 69, type := 0, pos := "law.go:86", after := #[], guard := none }) rfl rfl rfl rfl (clo_grown _) (by kernel_rfl) (by kernel_rfl) (by kernel_rfl) (by kernel_rfl) 24 8 rfl rfl (by decide) (by rfl) (by rfl) (fun _ => by rfl) (fun _ => by rfl)
    (f := 48) (args := #[.agg #[.int .i64 s.k, .int .i64 s.n, .int .i64 s.seg, .int .i64 s.size, .int .i64 s.segs, .int .i64 s.tail, .int .i64 s.block, .int .i64 s.last], .slice (some ⟨gB, 0, none⟩) n cB]) (fun w => by go_simp) (fun v w => by go_simp)
    (fun x => .func (.func 59) #[] #[.pointer (some ⟨x.c1, 0, none⟩), .pointer (some ⟨x.c2, 0, none⟩)]) (SgX.T s n l) SgX.B SgX.top (SgX.clo s n l) (fun x u h => h.2.1)
    (fun u hu => (segments_n s _ cB n l u (HPRE.out.grown hu) HLN.out (by omega)).mono (fun e w' h => by
      obtain ⟨d1, d2, ac, cc, rfl, hc, g⟩ := h
      exact ⟨⟨u.heap.size, w'.heap.size, d1, d2, ac, cc⟩, rfl, g, ⟨hc, Nat.le_refl _, fun k hk => (hc.lt hk).2⟩, rfl⟩))
    rfl hiq hiqz w3.heap.size (fun u h => h.size) ?_
  intro x b8 hb8w hxBw hb8
  simp only [Act.put, List.setIfInBounds_toArray, List.set_cons_zero, List.set_cons_succ]
  refine wpX_last (oL := { dst := none, op := Op.store 69 (Operand.tmp 8) (Operand.tmp 24), type := 0, pos := "law.go:86", after := #[{ on := 6, ground := Ground.data }, { on := 5, ground := Ground.data }, { on := 5, ground := Ground.chain }, { on := 0, ground := Ground.phase }, { on := 1, ground := Ground.phase }, { on := 2, ground := Ground.phase }, { on := 3, ground := Ground.phase }, { on := 4, ground := Ground.phase }, { on := 5, ground := Ground.phase }, { on := 6, ground := Ground.phase }], guard := none }) rfl (by kernel_rfl) (by kernel_rfl) (by rfl) (fun u4 hS4 K4 hK4 => ?_)
  obtain ⟨hg4, hT4, hr4⟩ := hS4
  have hr4' : Row u4 b8 69 #[.nilFunc] := hr4
  have c8u := Row.cell hr4' 0
  have f8u := Row.frozen hr4' 0
  simp at c8u
  refine wp_skip_op (w1 := u4.setCell ⟨b8, 0, none⟩ (.func (.func 59) #[] #[.pointer (some ⟨x.c1, 0, none⟩), .pointer (some ⟨x.c2, 0, none⟩)])) (by go_simp) (hK4 _ _ ?_)
  simp only [Act.put]
  obtain ⟨w4, hw4⟩ : ∃ w4, w4 = u4.setCell ⟨b8, 0, none⟩ (.func (.func 59) #[] #[.pointer (some ⟨x.c1, 0, none⟩), .pointer (some ⟨x.c2, 0, none⟩)]) := ⟨_, rfl⟩
  rw [← hw4]
  have hg5 : u4.grownBy w4 (some b8) := hw4 ▸ grownBy_setCell _ _ _ _
  have R8 := Lib.hid (show Row w4 b8 69 #[.func (.func 59) #[] #[.pointer (some ⟨x.c1, 0, none⟩), .pointer (some ⟨x.c2, 0, none⟩)]] from hw4 ▸ Row.setc hr4' 0 _)
  have HGB := Lib.hid hg5
  have HG4 := Lib.hid hg4
  have HC4 := Lib.hid hT4.1
  have HTP := Lib.hid hT4.2.2
  have HTL := Lib.hid hT4.2.1
  have g : w3.grownBy w4 none := grownBy_old hg4 hg5 hb8w
  have hnS : ∀ k, Chk.S x.c1 x.c2 x.ac x.cc k → k ≠ b8 := fun k hk e => by
    have h1 := (HC4.out.lt hk).1
    have h2 := HTP.out k hk
    subst e
    rcases hb8 with h | h <;> omega
  have HC := Lib.hid (HC4.out.kept (KeptS.ch (Ch.ofSome (S := fun k => k = b8) hg5 rfl) (fun k hk h => hnS k hk h)))
  have HNS := Lib.hid hnS
  have hb8lt : b8 < w4.heap.size := R8.out.lt
  have hxt : ∀ k, Chk.S x.c1 x.c2 x.ac x.cc k → w3.heap.size ≤ k ∧ k < w4.heap.size := fun k hk => ⟨Nat.le_trans hxBw (HC.out.lt hk).1, (HC.out.lt hk).2⟩
  have HXT := Lib.hid hxt
  clear hg5 hg4 hT4 hr4 hr4' c8u f8u hw4 hK4 hnS hxt HC4 HTP HTL HGB HG4 HPRE
  have Z4 := Lib.hid g.size
  replace HG := Lib.hid (grownBy_trans HG.out g)
  replace R3 := Lib.hid (R3.out.grown g)
  replace R4 := Lib.hid (R4.out.grown g)
  replace HFB := Lib.hid (BOwn.grown HFB.out g)
  clear g
  refine ⟨rfl, ?_⟩
  show Exit.then _ _ _ _ _
  have hnf := func_nilS (.func 59) #[] #[.pointer (some ⟨x.c1, 0, none⟩), .pointer (some ⟨x.c2, 0, none⟩)]
  have c4 := Row.cell R4.out 0
  simp at c4
  have c8 := Row.cell R8.out 0
  simp at c8
  go_wp2_with fail
  clear c4 c8
  refine (kept_yes _ _ _ _ n _ l _ (BOwn.lies HFB.out) (HA.out.grown HG.out) HLN.out rfl (by omega)).mono ?_
  rintro e w5 ⟨rfl, g⟩
  have Z5 := Lib.hid g.size
  replace HG := Lib.hid (grownBy_trans HG.out g)
  replace R3 := Lib.hid (R3.out.grown g)
  replace R4 := Lib.hid (R4.out.grown g)
  replace HFB := Lib.hid (BOwn.grown HFB.out g)
  replace R8 := Lib.hid (R8.out.grown g)
  replace HC := Lib.hid (HC.out.kept (KeptS.of g))
  clear g
  go_wp2_with fail
  refine (over_n _ gB cB (n + 70) (lent l) _ HFB.out (by omega)).mono ?_
  rintro e w6 ⟨rfl, _, g⟩
  have Z6 := Lib.hid g.size
  replace HG := Lib.hid (grownBy_old HG.out g (by have := YgB.out; omega))
  replace R3 := Lib.hid (R3.out.grownNe g (by have := YgB.out; omega))
  replace R4 := Lib.hid (R4.out.grownNe g (by have := YgB.out; omega))
  replace R8 := Lib.hid (R8.out.grownNe g (by have := YgB.out; omega))
  replace HC := Lib.hid (HC.out.kept (KeptS.ch (Ch.ofSome (S := fun k => k = gB) g rfl) (fun k hk h => by have h1 := (HXT.out k hk).1; have h2 := YgB.out; omega)))
  clear g HFB
  obtain ⟨y, hy⟩ : ∃ y, y = X % 8 := ⟨_, rfl⟩
  have hy8 : y < 8 := by omega
  have htm : (X : Int).tmod 8 = (y : Int) := by rw [hy]; exact (Int.ofNat_tmod X 8).symm
  have htm2 : (X : Int) % 8 = (y : Int) := by omega
  have hyw : IntKind.u16.wrap (y : Int) = (y : Int) := IntWalk.u16_in _ (by omega)
  obtain ⟨M1, hM1⟩ : ∃ M1, M1 = y + 1 := ⟨_, rfl⟩
  have hyi : (y : Int) + 1 = (M1 : Int) := by omega
  have HY := Lib.hid hy
  have HM1 := Lib.hid hM1
  have hM1a : 1 ≤ M1 := by omega
  have hM1b : M1 ≤ 8 := by omega
  clear hy hM1
  have c4 := Row.cell R4.out 0
  simp at c4
  have c8 := Row.cell R8.out 0
  simp at c8
  go_wp2_with (first | (refine wpList_load_row rfl 47 _ rfl b3 rfl 47 #[.int .i64 s.k, .int .i64 s.n, .int .i64 s.seg, .int .i64 s.size, .int .i64 s.segs, .int .i64 s.tail, .int .i64 s.block, .int .i64 s.last] (0, 0) _ R3.out Try.underlying47 rfl size_shape' ?_))
  clear c4 c8
  refine (gone_n s HWF.out a c n l _ (HA.out.grown HG.out) HLN.out hnc _ _ _ _ _ HC.out M1 hM1a (by omega)).mono ?_
  rintro e w7 ⟨af, ccf, Lf, rfl, hl, g⟩
  obtain ⟨Tf, hTf⟩ : ∃ Tf, Tf = (sgs s l).take M1 := ⟨_, rfl⟩
  rw [← hTf] at hl ⊢
  have hTlf : Tf.length ≤ 512 := by rw [hTf, List.length_take]; have := (sgs_small s l).1; omega
  have HTmf : Hid (∀ p ∈ Tf.map (·.2), p.length ≤ n) := Lib.hid (fun p hp => by
    rw [List.mem_map] at hp
    obtain ⟨q, hq, rfl⟩ := hp
    rw [hTf] at hq
    have h1 := (sgs_small s l).2 q (List.mem_of_mem_take hq)
    have h2 := HLN.out
    omega)
  have HLf := Lib.hid hl
  have WLf := Lib.hid hl.boxI
  clear hl hTf
  have Z7 := Lib.hid g.size
  replace HG := Lib.hid (grownBy_trans HG.out g)
  replace R3 := Lib.hid (R3.out.grown g)
  replace R4 := Lib.hid (R4.out.grown g)
  replace R8 := Lib.hid (R8.out.grown g)
  replace HC := Lib.hid (HC.out.kept (KeptS.of g))
  clear g
  have c4 := Row.cell R4.out 0
  simp at c4
  have c8 := Row.cell R8.out 0
  simp at c8
  go_wp2_with (first | (refine wpList_load_row rfl 47 _ rfl b3 rfl 47 #[.int .i64 s.k, .int .i64 s.n, .int .i64 s.seg, .int .i64 s.size, .int .i64 s.segs, .int .i64 s.tail, .int .i64 s.block, .int .i64 s.last] (0, 0) _ R3.out Try.underlying47 rfl size_shape' ?_))
  clear c4 c8
  refine (gone_n s HWF.out a c n l _ (HA.out.grown HG.out) HLN.out hnc _ _ _ _ _ HC.out 1048576 (by omega) (by omega)).mono ?_
  rintro e w8 ⟨aw, ccw, Lw, rfl, hl, g⟩
  obtain ⟨Tw, hTw⟩ : ∃ Tw, Tw = (sgs s l).take 1048576 := ⟨_, rfl⟩
  rw [← hTw] at hl ⊢
  have hTlw : Tw.length ≤ 512 := by rw [hTw, List.length_take]; have := (sgs_small s l).1; omega
  have HTmw : Hid (∀ p ∈ Tw.map (·.2), p.length ≤ n) := Lib.hid (fun p hp => by
    rw [List.mem_map] at hp
    obtain ⟨q, hq, rfl⟩ := hp
    rw [hTw] at hq
    have h1 := (sgs_small s l).2 q (List.mem_of_mem_take hq)
    have h2 := HLN.out
    omega)
  have HLw := Lib.hid hl
  have WLw := Lib.hid hl.boxI
  clear hl hTw
  have Z8 := Lib.hid g.size
  replace HG := Lib.hid (grownBy_trans HG.out g)
  replace R3 := Lib.hid (R3.out.grown g)
  replace R4 := Lib.hid (R4.out.grown g)
  replace R8 := Lib.hid (R8.out.grown g)
  replace HC := Lib.hid (HC.out.kept (KeptS.of g))
  replace HLf := Lib.hid (HLf.out.grown g)
  clear g
  have c8 := Row.cell R8.out 0
  simp at c8
  go_wp2_with (first | (refine wpList_fresh1 rfl rfl rfl rfl rfl hib hibz hibs rfl (.bool true) rfl rfl rfl ?_; intro wL hsL g hrL; have R12 := Lib.hid hrL; have c8L := (World.cell?_of_block (g.block _ (World.block_lt_of_cell? _ ⟨b8, 0, none⟩ c8) (by simp))).trans c8; have HZL := Lib.hid g.size; replace HG := Lib.hid (grownBy_trans HG.out g); replace R3 := Lib.hid (R3.out.grown g); replace R4 := Lib.hid (R4.out.grown g); replace R8 := Lib.hid (R8.out.grown g); replace HC := Lib.hid (HC.out.kept (KeptS.of g)); replace HLf := Lib.hid (HLf.out.grown g); replace HLw := Lib.hid (HLw.out.grown g); clear hsL g hrL c8))
  clear c8L
  obtain ⟨b12, hb12⟩ : ∃ b12, b12 = w8.heap.size := ⟨_, rfl⟩
  have q12 : b12 < wL.heap.size := by rw [hb12]; exact R12.out.lt
  have z12 : w8.heap.size ≤ b12 := by rw [hb12]; exact Nat.le_refl _
  rw [← hb12] at R12 ⊢
  clear hb12
  have hbp : ∀ k, Chk.S x.c1 x.c2 x.ac x.cc k → k < wL.heap.size ∧ k < b12 := fun k hk => by
    have h1 := (HXT.out k hk).2
    have z5 := Z5.out
    have z6 := Z6.out
    have z7 := Z7.out
    have z8 := Z8.out
    omega
  have HBP := Lib.hid hbp
  clear hbp
  refine (wpIn_wide (n := 3)).1 ?_
  refine wpIn_rangeOkA (F := Fence.wide) (n := 3) (fun t y => (t.setIfInBounds 58 (.int .i64 (y.at_ : Int))).setIfInBounds 59 y.sl.val) rfl (by omega) (gf := 59) (lb := #[.pointer (some ⟨x.c1, 0, none⟩), .pointer (some ⟨x.c2, 0, none⟩)]) rfl trivial (enters_of Try.func59 (by kernel_rfl) rfl)
    (segs1_in 2 _ x.c1 x.c2 s HWF.out x.ac n x.cc l wL HC.out) KeptS.trans (fun W l o o' hl _ _ _ => KeptS.put W l o' (fun hs => by have := (HBP.out _ hs).1; omega))
    (fun pre x W0 W l o o' h hl ho => h.put l o' hl ho) (Below.refl _ _) (fun _ => rfl)
    (fun pre W => pre = pre ∧ SeI w b3 b4 b8 b12 s a n c l x w6.heap.size w7.heap.size af Tf.length ccf Lf (Tf.map Prod.snd) aw Tw.length ccw Lw (Tw.map Prod.snd) W) (fun cd pre W => cd = .exit 0 ∧ SeI w b3 b4 b8 b12 s a n c l x w6.heap.size w7.heap.size af Tf.length ccf Lf (Tf.map Prod.snd) aw Tw.length ccw Lw (Tw.map Prod.snd) W)
    (fun _ _ _ _ h hg hr => ⟨rfl, SeI.own HG.out.size h.2 hg hr⟩) (fun _ _ _ _ _ h hg hr => ⟨h.1, SeI.own HG.out.size h.2 hg hr⟩)
    ⟨rfl, R3.out, R4.out, R8.out, R12.out, HC.out, HLf.out, HLw.out, HG.out⟩ ?assign ?body ?done ?stop
  case assign =>
    intro lp x W K hK
    simp only [Pce.vals]
    gi_wp2
    exact hK
  case body =>
    rintro lp pre ⟨at_, ⟨sa, sm, sc⟩, pb⟩ W0 W hI0 ⟨_, h3, h4, h8, h12, hc, hlf, hlw, hgw⟩ hkc hok
    have htp : 0 < ((sgs s l).take 2).length := by
      obtain ⟨r, hr⟩ := hok.at_
      rw [← hr, List.length_take, List.length_append, List.length_cons]
      omega
    have hgo := gone_n s HWF.out a c n l W (HA.out.grown hgw) HLN.out hnc _ _ _ _ _ hc 2 (by omega) (by omega)
    obtain ⟨T2, hT2⟩ : ∃ T2, T2 = (sgs s l).take 2 := ⟨_, rfl⟩
    rw [← hT2] at htp hgo
    unfold Sh.val at hgo
    have hdp : decide ((0 : Int) < (T2.length : Int)) = true := decide_eq_true (by omega)
    have Q3 := Lib.hid h3
    have Q4 := Lib.hid h4
    have Q8 := Lib.hid h8
    have Q12 := Lib.hid h12
    have QC := Lib.hid hc
    have QF := Lib.hid hlf
    have QW := Lib.hid hlw
    have QG := Lib.hid hgw
    have HGO := Lib.hid hgo
    have c4 := Row.cell Q4.out 0
    have c8 := Row.cell Q8.out 0
    simp at c4 c8
    clear hT2 h3 h4 h8 h12 hc hlf hlw hgw hgo hkc hok hI0
    simp only [List.setIfInBounds_toArray, List.set_cons_zero, List.set_cons_succ, Sl.val]
    gi_wp2_with (first
      | (refine wpListIn_valR rfl (fun c h => by cases h) (run_load_op _ _ 47 (.tmp 3) rfl b3 rfl 47 _ Q3.out Try.underlying47 rfl size_shape') ?_)
      | (refine ⟨trivial, ?_⟩; gi_at_call 49; refine (calls_wide HGO.out).mono ?_; rintro e W1 ⟨ai, ci, Li, rfl, _, hg⟩; have GW1 := Lib.hid hg; have Q121 := Lib.hid (Q12.out.grown hg); have c12 := Row.cell Q121.out 0; have f12 := Row.frozen Q121.out 0; simp at c12; clear hg c4 c8)
      | (refine wpListIn_skipR (w1 := W1.setCell ⟨b12, 0, none⟩ (.bool true)) 4 (.tmp 12) (.tmp 75) rfl rfl (fun c h => by cases h) (by go_simp) ?_; obtain ⟨W2, hW2⟩ : ∃ W2, W2 = W1.setCell ⟨b12, 0, none⟩ (.bool true) := ⟨_, rfl⟩; rw [← hW2]; have hg2 : W1.grownBy W2 (some b12) := hW2 ▸ grownBy_setCell _ _ _ _; have Q122 := Lib.hid (show Row W2 b12 4 #[.bool true] from hW2 ▸ Row.setc Q121.out 0 _); have HCH2 := Lib.hid (show Ch (fun g => g = b12) W W2 from (Ch.ofNone GW1.out _).trans (Ch.ofSome (S := fun g => g = b12) hg2 rfl) (fun _ _ h => h)); clear hW2 hg2 c12 f12))
    have hne : ∀ b, b < b12 → ¬ b = b12 := fun b hb h => by omega
    have z6 := Z6.out
    have z7 := Z7.out
    have z8 := Z8.out
    have z5 := Z5.out
    have z4 := Z4.out
    have z3 := Z3.out
    refine ⟨KeepsFrom.ch HCH2.out (fun g hS => ?_), rfl, Q3.out.ch HCH2.out (hne _ (by omega)), Q4.out.ch HCH2.out (hne _ (by omega)), Q8.out.ch HCH2.out (hne _ (by omega)), Q122.out, QC.out.kept (KeptS.ch HCH2.out (fun k hk h => by have := (HBP.out k hk).2; omega)), ?_, ?_, Ch.fresh QG.out HCH2.out (fun g hg hT => by have := HG.out.size; have := q3; omega)⟩
    · subst hS
      exact ⟨_, _, _, Q12.out⟩
    · exact LIs.chS QF.out HCH2.out (fun g hi h => by subst h; exact row_in Q12.out QF.out.outer (by decide) hi) (fun j hj g hi h => by subst h; exact row_in Q12.out (QF.out.inner j hj (by have := QF.out.len; omega)) (by decide) hi)
    · exact LIs.chS QW.out HCH2.out (fun g hi h => by subst h; exact row_in Q12.out QW.out.outer (by decide) hi) (fun j hj g hi h => by subst h; exact row_in Q12.out (QW.out.inner j hj (by have := QW.out.len; omega)) (by decide) hi)
  case done =>
    rintro D xs W hD hS ⟨_, h3, h4, h8, h12, hc, hlf, hlw, hgw⟩ hK
    have hwW := hgw.size
    have hDlt : D < W.heap.size := (Array.getElem?_eq_some_iff.1 hK).1
    have HK := Lib.hid hK
    have HDW := Lib.hid hD
    have c4 := Row.cell h4 0
    have c8 := Row.cell h8 0
    simp at c4 c8
    have R3 := Lib.hid h3
    have Q12 := Lib.hid h12
    have QC := Lib.hid hc
    have QF := Lib.hid hlf
    have QW := Lib.hid hlw
    have QG := Lib.hid hgw
    clear hK hD h3 h4 h8 h12 hc hlf hlw hgw
    go_wp2_with (first | (refine wpList_load_row rfl 47 _ rfl b3 rfl 47 #[.int .i64 s.k, .int .i64 s.n, .int .i64 s.seg, .int .i64 s.size, .int .i64 s.segs, .int .i64 s.tail, .int .i64 s.block, .int .i64 s.last] (0, 0) _ R3.out Try.underlying47 rfl size_shape' ?_))
    clear c4 c8
    refine (gone_n s HWF.out a c n l _ (HA.out.grown QG.out) HLN.out hnc _ _ _ _ _ QC.out 1048576 (by omega) (by omega)).mono ?_
    rintro e V1 ⟨aa, cca, La, rfl, hl, g⟩
    obtain ⟨Ta, hTa⟩ : ∃ Ta, Ta = (sgs s l).take 1048576 := ⟨_, rfl⟩
    rw [← hTa] at hl ⊢
    have hTla : Ta.length ≤ 512 := by rw [hTa, List.length_take]; have := (sgs_small s l).1; omega
    have HTma : Hid (∀ p ∈ Ta.map (·.2), p.length ≤ n) := Lib.hid (fun p hp => by
      rw [List.mem_map] at hp
      obtain ⟨q, hq, rfl⟩ := hp
      rw [hTa] at hq
      have h1 := (sgs_small s l).2 q (List.mem_of_mem_take hq)
      have h2 := HLN.out
      omega)
    have HLA := Lib.hid hl
    have WLa := Lib.hid hl.boxI
    replace QF := Lib.hid (QF.out.grown g)
    replace QW := Lib.hid (QW.out.grown g)
    replace QG := Lib.hid (grownBy_trans QG.out g)
    have R12v := Lib.hid (Q12.out.grown g)
    have HK1 := Lib.hid ((g.block _ (Array.getElem?_eq_some_iff.1 HK.out).1 (by simp)).trans HK.out)
    have ZV := Lib.hid g.size
    clear hl hTa g
    have hnil : SOwn V1 V1.heap.size none 0 0 [] := Own.nil _ _ _ _ _
    obtain ⟨p1, d1, V2, hr1, ho1, hch1, _⟩ := run_appL V1 hnil QF.out.outer (by omega) (Nat.le_refl _) 24
    have g12 : V1.grownBy V2 none := Ch.fresh (World.grownBy.refl V1 none) hch1 (fun g hg h => absurd h.1 (by omega))
    rw [Nat.zero_add] at hr1 ho1
    obtain ⟨p2, d2, V3, hr2, ho2, hch2, _⟩ := run_appL V2 ho1 (Own.grownNone QW.out.outer g12) (by omega) g12.size 24
    have g13 : V1.grownBy V3 none := Ch.fresh g12 hch2 (fun g hg h => by have := (Own.inn ho1 h).1; omega)
    obtain ⟨p3, d3, V4, hr3, ho3, hch3, _⟩ := run_appL V3 ho2 (Own.grownNone HLA.out.outer g13) (by omega) g13.size 24
    have g14 : V1.grownBy V4 none := Ch.fresh g13 hch3 (fun g hg h => by have := (Own.inn ho2 h).1; omega)
    have HR1 := Lib.hid hr1
    have HR2 := Lib.hid hr2
    have HR3 := Lib.hid hr3
    have HO3 := Lib.hid ho3
    have G14 := Lib.hid g14
    have HK4 := Lib.hid ((g14.block _ (Array.getElem?_eq_some_iff.1 HK1.out).1 (by simp)).trans HK1.out)
    have c12 := Row.cell (R12v.out.grown g14) 0
    simp at c12
    clear hnil hr1 hr2 hr3 ho1 ho2 ho3 hch1 hch2 hch3 g12 g13 g14
    go_wp2_with (first
      | (at_builtin; refine Lib.wpList_append_run _ rfl (.tmp 83) (.tmp 84) 24 24 rfl _ _ rfl rfl _ _ HR1.out ?_)
      | (at_builtin; refine Lib.wpList_append_run _ rfl (.tmp 86) (.tmp 87) 24 24 rfl _ _ rfl rfl _ _ HR2.out ?_)
      | (at_builtin; refine Lib.wpList_append_run _ rfl (.tmp 89) (.tmp 90) 24 24 rfl _ _ rfl rfl _ _ HR3.out ?_))
    have hF := QF.out.grown G14.out
    have hW := QW.out.grown G14.out
    have hA := HLA.out.grown G14.out
    have hlF : Lf.length = Tf.length := by rw [hF.len, List.length_map]
    have hlW : Lw.length = Tw.length := by rw [hW.len, List.length_map]
    have hlA : La.length = Ta.length := by rw [hA.len, List.length_map]
    have qg := QG.out.size
    have q14 := G14.out.size
    have zv := ZV.out
    have hzl := HZL.out
    have hdw := HDW.out
    have z3 := Z3.out
    have z4 := Z4.out
    have z5 := Z5.out
    have z6 := Z6.out
    have z7 := Z7.out
    have z8 := Z8.out
    have hall : ∀ q ∈ ([] ++ Lf) ++ Lw ++ La, ∃ u, BOwn V4 w.heap.size q.a q.n q.c u ∧ q.n ≤ 100000000 := fun q hm => by
      simp only [List.nil_append, List.mem_append] at hm
      rcases hm with (hm | hm) | hm
      · obtain ⟨i, hi, rfl⟩ := List.getElem_of_mem hm
        have h2 : ((Tf.map Prod.snd)[i]'(by rw [List.length_map, ← hlF]; exact hi)).length ≤ n := HTmf.out _ (List.getElem_mem (show i < (Tf.map (·.2)).length by rw [List.length_map, ← hlF]; exact hi))
        have h1 := (hF.inner i hi (by have := hF.len; omega))
        have h3 := h1.len
        exact ⟨_, h1.mono (by omega), by omega⟩
      · obtain ⟨i, hi, rfl⟩ := List.getElem_of_mem hm
        have h2 : ((Tw.map Prod.snd)[i]'(by rw [List.length_map, ← hlW]; exact hi)).length ≤ n := HTmw.out _ (List.getElem_mem (show i < (Tw.map (·.2)).length by rw [List.length_map, ← hlW]; exact hi))
        have h1 := (hW.inner i hi (by have := hW.len; omega))
        have h3 := h1.len
        exact ⟨_, h1.mono (by omega), by omega⟩
      · obtain ⟨i, hi, rfl⟩ := List.getElem_of_mem hm
        have h2 := HTma.out _ (List.getElem_mem (show i < (Ta.map (·.2)).length by rw [List.length_map, ← hlA]; exact hi))
        have h1 := (hA.inner i hi (by have := hA.len; omega))
        have h3 := h1.len
        exact ⟨_, h1.mono (by omega), by omega⟩
    have hst : TSt1 w.heap.size p3 d3 (([] ++ Lf) ++ Lw ++ La) V4 0 0 V4 := tst1_own (Own.mono HO3.out (show w.heap.size ≤ V1.heap.size from qg)) (fun j hj => by
      obtain ⟨u, h1, _⟩ := hall _ (List.getElem_mem hj)
      exact ⟨u, h1⟩)
    have hdi : Distinct (([] ++ Lf) ++ Lw ++ La) := by
      apply distinct_pairsT
      rw [List.nil_append, List.pairwise_append, List.pairwise_append]
      refine ⟨⟨distinct_offT hF.apart, distinct_offT hW.apart, fun s1 h1 s2 h2 => ?_⟩, distinct_offT hA.apart, fun s1 h1 s2 h2 => ?_⟩
      · obtain ⟨i, hi, rfl⟩ := List.getElem_of_mem h1
        obtain ⟨i2, hi2, rfl⟩ := List.getElem_of_mem h2
        exact Sl.offT_win (WLf.out i hi) (WLw.out i2 hi2) (by omega)
      · obtain ⟨i2, hi2, rfl⟩ := List.getElem_of_mem h2
        rw [List.mem_append] at h1
        rcases h1 with h1 | h1
        · obtain ⟨i, hi, rfl⟩ := List.getElem_of_mem h1
          exact Sl.offT_win (WLf.out i hi) (WLa.out i2 hi2) (by omega)
        · obtain ⟨i, hi, rfl⟩ := List.getElem_of_mem h1
          exact Sl.offT_win (WLw.out i hi) (WLa.out i2 hi2) (by omega)
    refine (apartT_n w.heap.size p3 d3 (Tf.length + Tw.length + Ta.length) (([] ++ Lf) ++ Lw ++ La) V4 hst (by omega) hdi (by rw [List.length_append, List.length_append, List.nil_append, hlF, hlW, hlA]) (by omega) (fun j hj => (hall _ (List.getElem_mem hj)).choose_spec.2)).mono ?_
    rintro e V5 ⟨rfl, hbel⟩
    have HG5 := Lib.hid (grown_below (grownBy_trans QG.out G14.out) hbel.toBelow (Nat.le_refl _))
    have HK5 := Lib.hid ((hbel.off D (.inr ⟨(Array.getElem?_eq_some_iff.1 HK4.out).1, fun j hj e => by
      obtain ⟨u, h1, _⟩ := hall _ (List.getElem_mem hj)
      obtain ⟨hc, ha⟩ := BOwn.blk h1 e
      obtain ⟨cs, ty, fr, h2⟩ := Own.cellsAt h1 (g := D) ⟨hc, ha⟩
      have h3 := HK4.out
      rw [h2] at h3
      cases h3⟩)).trans HK4.out)
    clear hst hdi hbel hF hW hA hall
    go_wp2_with fail
    refine (awake_n _).mono ?_
    rintro e V6 ⟨rfl, g⟩
    have HG6 := Lib.hid (grownBy_trans HG5.out g)
    have HK6 := Lib.hid ((g.block _ (Array.getElem?_eq_some_iff.1 HK5.out).1 (by simp)).trans HK5.out)
    clear g
    go_wp2_with fail
    refine ⟨by simp, .inl ⟨_, _, rfl, run_takeDeferred HK6.out, ?_⟩⟩
    exact ⟨_, results_tmp rfl _ _ _, rfl, grown_nc HG6.out (grownBy_putObj' _ D _) (Nat.le_refl _) (fun r e => by cases e; exact ⟨by have h1 := HDW.out; have h2 := HG.out.size; omega, _, HK6.out, rfl⟩)⟩
  case stop =>
    rintro D cd pre W hD hS ⟨rfl, h3, h4, h8, h12, hc, hlf, hlw, hgw⟩ hK
    refine wpIn_exit ?_
    have hwW := hgw.size
    have hDlt : D < W.heap.size := (Array.getElem?_eq_some_iff.1 hK).1
    have HK := Lib.hid hK
    have HDW := Lib.hid hD
    have c4 := Row.cell h4 0
    have c8 := Row.cell h8 0
    simp at c4 c8
    have R3 := Lib.hid h3
    have Q12 := Lib.hid h12
    have QC := Lib.hid hc
    have QF := Lib.hid hlf
    have QW := Lib.hid hlw
    have QG := Lib.hid hgw
    clear hK hD h3 h4 h8 h12 hc hlf hlw hgw
    go_wp2_with (first | (refine wpList_load_row rfl 47 _ rfl b3 rfl 47 #[.int .i64 s.k, .int .i64 s.n, .int .i64 s.seg, .int .i64 s.size, .int .i64 s.segs, .int .i64 s.tail, .int .i64 s.block, .int .i64 s.last] (0, 0) _ R3.out Try.underlying47 rfl size_shape' ?_))
    clear c4 c8
    refine (gone_n s HWF.out a c n l _ (HA.out.grown QG.out) HLN.out hnc _ _ _ _ _ QC.out 1048576 (by omega) (by omega)).mono ?_
    rintro e V1 ⟨aa, cca, La, rfl, hl, g⟩
    obtain ⟨Ta, hTa⟩ : ∃ Ta, Ta = (sgs s l).take 1048576 := ⟨_, rfl⟩
    rw [← hTa] at hl ⊢
    have hTla : Ta.length ≤ 512 := by rw [hTa, List.length_take]; have := (sgs_small s l).1; omega
    have HTma : Hid (∀ p ∈ Ta.map (·.2), p.length ≤ n) := Lib.hid (fun p hp => by
      rw [List.mem_map] at hp
      obtain ⟨q, hq, rfl⟩ := hp
      rw [hTa] at hq
      have h1 := (sgs_small s l).2 q (List.mem_of_mem_take hq)
      have h2 := HLN.out
      omega)
    have HLA := Lib.hid hl
    have WLa := Lib.hid hl.boxI
    replace QF := Lib.hid (QF.out.grown g)
    replace QW := Lib.hid (QW.out.grown g)
    replace QG := Lib.hid (grownBy_trans QG.out g)
    have R12v := Lib.hid (Q12.out.grown g)
    have HK1 := Lib.hid ((g.block _ (Array.getElem?_eq_some_iff.1 HK.out).1 (by simp)).trans HK.out)
    have ZV := Lib.hid g.size
    clear hl hTa g
    have hnil : SOwn V1 V1.heap.size none 0 0 [] := Own.nil _ _ _ _ _
    obtain ⟨p1, d1, V2, hr1, ho1, hch1, _⟩ := run_appL V1 hnil QF.out.outer (by omega) (Nat.le_refl _) 24
    have g12 : V1.grownBy V2 none := Ch.fresh (World.grownBy.refl V1 none) hch1 (fun g hg h => absurd h.1 (by omega))
    rw [Nat.zero_add] at hr1 ho1
    obtain ⟨p2, d2, V3, hr2, ho2, hch2, _⟩ := run_appL V2 ho1 (Own.grownNone QW.out.outer g12) (by omega) g12.size 24
    have g13 : V1.grownBy V3 none := Ch.fresh g12 hch2 (fun g hg h => by have := (Own.inn ho1 h).1; omega)
    obtain ⟨p3, d3, V4, hr3, ho3, hch3, _⟩ := run_appL V3 ho2 (Own.grownNone HLA.out.outer g13) (by omega) g13.size 24
    have g14 : V1.grownBy V4 none := Ch.fresh g13 hch3 (fun g hg h => by have := (Own.inn ho2 h).1; omega)
    have HR1 := Lib.hid hr1
    have HR2 := Lib.hid hr2
    have HR3 := Lib.hid hr3
    have HO3 := Lib.hid ho3
    have G14 := Lib.hid g14
    have HK4 := Lib.hid ((g14.block _ (Array.getElem?_eq_some_iff.1 HK1.out).1 (by simp)).trans HK1.out)
    have c12 := Row.cell (R12v.out.grown g14) 0
    simp at c12
    clear hnil hr1 hr2 hr3 ho1 ho2 ho3 hch1 hch2 hch3 g12 g13 g14
    go_wp2_with (first
      | (at_builtin; refine Lib.wpList_append_run _ rfl (.tmp 83) (.tmp 84) 24 24 rfl _ _ rfl rfl _ _ HR1.out ?_)
      | (at_builtin; refine Lib.wpList_append_run _ rfl (.tmp 86) (.tmp 87) 24 24 rfl _ _ rfl rfl _ _ HR2.out ?_)
      | (at_builtin; refine Lib.wpList_append_run _ rfl (.tmp 89) (.tmp 90) 24 24 rfl _ _ rfl rfl _ _ HR3.out ?_))
    have hF := QF.out.grown G14.out
    have hW := QW.out.grown G14.out
    have hA := HLA.out.grown G14.out
    have hlF : Lf.length = Tf.length := by rw [hF.len, List.length_map]
    have hlW : Lw.length = Tw.length := by rw [hW.len, List.length_map]
    have hlA : La.length = Ta.length := by rw [hA.len, List.length_map]
    have qg := QG.out.size
    have q14 := G14.out.size
    have zv := ZV.out
    have hzl := HZL.out
    have hdw := HDW.out
    have z3 := Z3.out
    have z4 := Z4.out
    have z5 := Z5.out
    have z6 := Z6.out
    have z7 := Z7.out
    have z8 := Z8.out
    have hall : ∀ q ∈ ([] ++ Lf) ++ Lw ++ La, ∃ u, BOwn V4 w.heap.size q.a q.n q.c u ∧ q.n ≤ 100000000 := fun q hm => by
      simp only [List.nil_append, List.mem_append] at hm
      rcases hm with (hm | hm) | hm
      · obtain ⟨i, hi, rfl⟩ := List.getElem_of_mem hm
        have h2 : ((Tf.map Prod.snd)[i]'(by rw [List.length_map, ← hlF]; exact hi)).length ≤ n := HTmf.out _ (List.getElem_mem (show i < (Tf.map (·.2)).length by rw [List.length_map, ← hlF]; exact hi))
        have h1 := (hF.inner i hi (by have := hF.len; omega))
        have h3 := h1.len
        exact ⟨_, h1.mono (by omega), by omega⟩
      · obtain ⟨i, hi, rfl⟩ := List.getElem_of_mem hm
        have h2 : ((Tw.map Prod.snd)[i]'(by rw [List.length_map, ← hlW]; exact hi)).length ≤ n := HTmw.out _ (List.getElem_mem (show i < (Tw.map (·.2)).length by rw [List.length_map, ← hlW]; exact hi))
        have h1 := (hW.inner i hi (by have := hW.len; omega))
        have h3 := h1.len
        exact ⟨_, h1.mono (by omega), by omega⟩
      · obtain ⟨i, hi, rfl⟩ := List.getElem_of_mem hm
        have h2 := HTma.out _ (List.getElem_mem (show i < (Ta.map (·.2)).length by rw [List.length_map, ← hlA]; exact hi))
        have h1 := (hA.inner i hi (by have := hA.len; omega))
        have h3 := h1.len
        exact ⟨_, h1.mono (by omega), by omega⟩
    have hst : TSt1 w.heap.size p3 d3 (([] ++ Lf) ++ Lw ++ La) V4 0 0 V4 := tst1_own (Own.mono HO3.out (show w.heap.size ≤ V1.heap.size from qg)) (fun j hj => by
      obtain ⟨u, h1, _⟩ := hall _ (List.getElem_mem hj)
      exact ⟨u, h1⟩)
    have hdi : Distinct (([] ++ Lf) ++ Lw ++ La) := by
      apply distinct_pairsT
      rw [List.nil_append, List.pairwise_append, List.pairwise_append]
      refine ⟨⟨distinct_offT hF.apart, distinct_offT hW.apart, fun s1 h1 s2 h2 => ?_⟩, distinct_offT hA.apart, fun s1 h1 s2 h2 => ?_⟩
      · obtain ⟨i, hi, rfl⟩ := List.getElem_of_mem h1
        obtain ⟨i2, hi2, rfl⟩ := List.getElem_of_mem h2
        exact Sl.offT_win (WLf.out i hi) (WLw.out i2 hi2) (by omega)
      · obtain ⟨i2, hi2, rfl⟩ := List.getElem_of_mem h2
        rw [List.mem_append] at h1
        rcases h1 with h1 | h1
        · obtain ⟨i, hi, rfl⟩ := List.getElem_of_mem h1
          exact Sl.offT_win (WLf.out i hi) (WLa.out i2 hi2) (by omega)
        · obtain ⟨i, hi, rfl⟩ := List.getElem_of_mem h1
          exact Sl.offT_win (WLw.out i hi) (WLa.out i2 hi2) (by omega)
    refine (apartT_n w.heap.size p3 d3 (Tf.length + Tw.length + Ta.length) (([] ++ Lf) ++ Lw ++ La) V4 hst (by omega) hdi (by rw [List.length_append, List.length_append, List.nil_append, hlF, hlW, hlA]) (by omega) (fun j hj => (hall _ (List.getElem_mem hj)).choose_spec.2)).mono ?_
    rintro e V5 ⟨rfl, hbel⟩
    have HG5 := Lib.hid (grown_below (grownBy_trans QG.out G14.out) hbel.toBelow (Nat.le_refl _))
    have HK5 := Lib.hid ((hbel.off D (.inr ⟨(Array.getElem?_eq_some_iff.1 HK4.out).1, fun j hj e => by
      obtain ⟨u, h1, _⟩ := hall _ (List.getElem_mem hj)
      obtain ⟨hc, ha⟩ := BOwn.blk h1 e
      obtain ⟨cs, ty, fr, h2⟩ := Own.cellsAt h1 (g := D) ⟨hc, ha⟩
      have h3 := HK4.out
      rw [h2] at h3
      cases h3⟩)).trans HK4.out)
    clear hst hdi hbel hF hW hA hall
    go_wp2_with fail
    refine (awake_n _).mono ?_
    rintro e V6 ⟨rfl, g⟩
    have HG6 := Lib.hid (grownBy_trans HG5.out g)
    have HK6 := Lib.hid ((g.block _ (Array.getElem?_eq_some_iff.1 HK5.out).1 (by simp)).trans HK5.out)
    clear g
    go_wp2_with fail
    refine ⟨by simp, .inl ⟨_, _, rfl, run_takeDeferred HK6.out, ?_⟩⟩
    exact ⟨_, results_tmp rfl _ _ _, rfl, grown_nc HG6.out (grownBy_putObj' _ D _) (Nat.le_refl _) (fun r e => by cases e; exact ⟨by have h1 := HDW.out; have h2 := HG.out.size; omega, _, HK6.out, rfl⟩)⟩

theorem u16_of_wf {n : Int} (h : (Lit.int .u16 n).wf = true) : ∃ m : Nat, n = (m : Int) ∧ m < 65536 := by
  have h' : 0 ≤ n ∧ n ≤ 65535 := by simpa [Lit.wf, IntKind.min, IntKind.max, IntKind.signed, IntKind.bits] using h
  exact ⟨n.toNat, by omega, by omega⟩
theorem cutSegs_walkI (s : Sh) (hs : s.Wf) (a : Option Addr) (c n : Nat) (l : List UInt8) (x : Int) (hx : (Lit.int .u16 x).wf = true) (w : World) (ha : BLies w a l) (hln : l.length = n) (hnc : n ≤ c) (hn : n ≤ 1048576) :
    Calls Try.prog 12 #[s.val, .slice a n c, .int .u16 x] w fun e w' => e = .returned (.bool true) ∧ w.grownBy w' none := by
  obtain ⟨X, rfl, hX⟩ := u16_of_wf hx
  exact cutSegs_walk s hs a c n l X hX w ha hln hnc hn

end Go.Proofs.Ytfboddnpkaiifaa
