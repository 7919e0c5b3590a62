/- Helpers and contracts of the proofs over this seat: OctChunksL. Each states what a function of the program answers, or is plain Lean; its conditions stand in each statement. -/
import Derived.Test.YthemlaibjchjpaaPtAA
import Derived.Test.YthemlaibjchjpaaPtAB
import Derived.Test.YthemlaibjchjpaaPtAD
import Derived.Test.YthemlaibjchjpaaPtAE
import Derived.Test.YthemlaibjchjpaaPtAF
import Derived.Test.YthemlaibjchjpaaPtAH
import Derived.Test.YthemlaibjchjpaaPtAI
import Derived.Test.YthemlaibjchjpaaPtAJ
set_option linter.unusedVariables false
/- The law OctetChunks. Printed by gens/octchunks.py. -/
namespace Go.Proofs.Ythemlaibjchjpaa
open Go.RowKit Go.Shelf
attribute [local go_sem] Oper.semAt_some

theorem run_store_funcC (P : Program) (w : World) (a : Addr) (m : Mode) (fn : Fn) (first captured : Array Value) : (store a (.func fn first captured) m).run P w = stored P w a (.func fn first captured) m := run_store P w a _ m rfl
attribute [local go_sem] run_store_funcC
set_option maxRecDepth 100000 in
set_option maxHeartbeats 1000000 in
/-- a list above 4000 bytes is let go -/
theorem chunks_big (a : Option Addr) (n c : Nat) (z M : Int) (w : World) (hn : 4000 < n) :
    Calls Try.prog 3 #[.slice a n c, .int .i64 z, .int .i64 M] w fun e w' => e = .returned (.bool true) ∧ w.grownBy w' none := by
  obtain ⟨ib, hib, hibz, hibs, _⟩ := info_parts (show (Try.prog.info? 4).map (fun i => (i.zero, i.size, i.bytes)) = some (some (.bool false), 1, 1) by kernel_rfl)
  obtain ⟨ii, hii, hiiz, hiis, _⟩ := info_parts (show (Try.prog.info? 3).map (fun i => (i.zero, i.size, i.bytes)) = some (some (.int .i64 0), 1, 8) by kernel_rfl)
  obtain ⟨il, hil, hilz, hils, _⟩ := info_parts (show (Try.prog.info? 23).map (fun i => (i.zero, i.size, i.bytes)) = some (some (.slice none 0 0), 1, 24) by kernel_rfl)
  obtain ⟨ill, hill, hillz, hills, _⟩ := info_parts (show (Try.prog.info? 24).map (fun i => (i.zero, i.size, i.bytes)) = some (some (.slice none 0 0), 1, 24) by kernel_rfl)
  obtain ⟨iq, hiq, hiqz, hiqs, _⟩ := info_parts (show (Try.prog.info? 29).map (fun i => (i.zero, i.size, i.bytes)) = some (some (.nilFunc), 1, 8) by kernel_rfl)
  obtain ⟨ic, hic, hicz, hics, _⟩ := info_parts (show (Try.prog.info? 33).map (fun i => (i.zero, i.size, i.bytes)) = some (some (.agg #[.slice none 0 0, .slice none 0 0]), 2, 48) by kernel_rfl)
  have hd : decide ((4000 : Int) < (n : Int)) = true := decide_eq_true (by omega)
  have hd2 : decide (4000 < n) = true := decide_eq_true hn
  go_enter Try.func3, Try.ntmps3
  go_upto_region 1 with (first
    | (refine wpList_box1 rfl rfl (.int .i64 M) rfl rfl ?_; intro w1 hs g hr; have G1 := Lib.hid g; clear hs g hr)
    | (refine wpList_made rfl rfl hib hibz ?_; intro w2 hs g hr; have G2 := Lib.hid (grownBy_trans G1.out g); have R6 := Lib.hid (show Row w2 w1.heap.size 4 #[.bool false] from hr); clear hs g hr))
  obtain ⟨b6, hb6⟩ : ∃ b6, b6 = w1.heap.size := ⟨_, rfl⟩
  have q6 : w.heap.size ≤ b6 := by rw [hb6]; exact G1.out.size
  rw [← hb6] at R6 ⊢
  clear hb6
  go_wp2_with (refine wpList_put1 rfl rfl b6 rfl (.bool true) rfl R6.out sizeBO rfl ?_; intro w3 hs g hr; have G3 := Lib.hid g; have R63 := Lib.hid (show Row w3 b6 4 #[.bool true] from hr); clear hs g hr)
  refine bodyPost_ret (results_cell1 rfl _ _ b6 _ rfl R63.out) rfl ?_
  exact ⟨rfl, grownBy_old G2.out G3.out q6⟩

theorem len_flatten_mem : ∀ (L : List (List UInt8)) (b : List UInt8), b ∈ L → b.length ≤ L.flatten.length
  | [], _, h => by cases h
  | x :: r, b, h => by
    rw [List.flatten_cons, List.length_append]
    rcases List.mem_cons.1 h with rfl | h
    · omega
    · have := len_flatten_mem r b h; omega
/-- only the way on, in a form whose other ways are False outright -/
def QM (R : Act → World → Prop) : Exit → Act → World → Prop
  | .normal, a, w => R a w
  | _, _, _ => False
theorem QM.mk {R : Act → World → Prop} {a : Act} {w : World} (h : R a w) : QM R .normal a w := h
theorem wp_normalC {P : Program} {c : Code} {Q : Exit → Act → World → Prop} {a : Act} {w : World} (h : c.wp P (QM fun a w => Q .normal a w) a w) : c.wp P Q a w :=
  wp_mono h (fun e a w h => by cases e <;> first | exact h | exact h.elim)
theorem chL_small (z : Int) (l : List UInt8) : ∀ b ∈ plB (chL z l), b.length ≤ l.length := by
  intro b hb
  unfold plB at hb
  obtain ⟨x, hx, rfl⟩ := List.mem_map.1 hb
  by_cases hz : z < 1
  · unfold chL at hx
    rw [if_pos hz] at hx
    cases hx
  · have hf : (chL z l).map (·.2) = (chL z l).map (·.2) := rfl
    have h : flt (chL z l) = l := by
      unfold chL
      rw [if_neg hz]
      exact flt_chs _ _ _ _ (Nat.le_refl _)
    rw [← h]
    unfold flt
    exact len_flatten_mem ((chL z l).map (·.2)) x.2 (List.mem_map.2 ⟨x, hx, rfl⟩)
theorem want_lies {w : World} {base : Nat} {wa qa : Option Addr} {m wc : Nat} {Lp Lw : List Sl} {P t : List (List UInt8)} (hs : SOwn w base wa m wc Lw) (hq : LLies w qa Lp P) (hw : WantOk Lp P Lw t) : LLies w wa Lw t := by
  refine ⟨fun k hk => ?_, hw.1, fun i h h' => ?_⟩
  · obtain ⟨g, e, _, _, hc, _⟩ := Own.cell hs k hk
    exact ⟨g, 0, e, by rw [Nat.zero_add, hc]⟩
  · obtain ⟨j, hj, hj', e1, e2⟩ := hw.2 i h h'
    rw [e1, e2]
    exact hq.2.2 j hj hj'
theorem chL_first (z : Int) (l : List UInt8) (p : Nat) (b : List UInt8) (h : (chL z l)[0]? = some (p, b)) : p = 0 := by
  unfold chL at h
  split at h
  · simp at h
  · by_cases h0 : l = []
    · subst h0; rw [chs_nil] at h; simp at h
    · rw [chs_cons h0] at h
      simp at h
      exact h.1.symm
theorem wpList_skipC {P : Program} {ops : Array Oper} {Q : Exit → Act → World → Prop} {o : Oper} {rest : List Oper} {a : Act} {w w1 : World} (hg : o.guard = none) (hr : (execOp a.eval o).run P w = .ok .skip w1) (h : wpList P ops Q rest (a.put o.dst undef) w1) : wpList P ops Q (o :: rest) a w := by
  refine wpList_plain hg fun K hK => ?_
  unfold Oper.wp
  rw [hr, Oper.upon_skip]
  exact hK _ _ h
/-- what stands in a round -/
def LwI (w15 : World) (b12 b13 bc hi : Nat) (r : Int) (Ds : List Nat) (Lp : List Sl) (P t : List (List UInt8)) (pre : List Pce) (W : World) : Prop :=
  ∃ x : Ckx, Row W b12 3 #[.int .i64 r] ∧ Row W b13 3 #[.int .i64 (pre.length : Int)] ∧ CkS bc (bc + 1) Lp P (t ++ pre.map Pce.b) x W ∧ Ch (fun y => bc ≤ y) w15 W ∧ hi ≤ W.heap.size ∧ ∀ D ∈ Ds, D < hi ∧ W.heap[D]? = some (.deferred (some []))
theorem LwI.own {w15 : World} {b12 b13 bc hi b0 : Nat} {r : Int} {Ds : List Nat} {Lp : List Sl} {P t : List (List UInt8)} (hb : bc ≤ b0) (hb2 : hi ≤ b0) : OwnFrom b0 (LwI w15 b12 b13 bc hi r Ds Lp P t) :=
  fun _ _ _ _ ⟨x, h1, h2, h3, h4, h5, h6⟩ hg hr => ⟨x, h1.nc hg hr, h2.nc hg hr, h3.nc hg hr, h4.putN hg (fun r e => Nat.le_trans hb (hr r e).1), Nat.le_trans h5 hg.size, fun D hD => ⟨(h6 D hD).1, (hg.block D (Array.getElem?_eq_some_iff.1 (h6 D hD).2).1 (fun e => by have h1 := (h6 D hD).1; have h2 := (hr D e.symm).1; omega)).trans (h6 D hD).2⟩⟩
theorem KeptS.nc {S : Nat → Prop} {W A B : World} {row : Option Nat} {b0 : Nat} (h : KeptS S W A) (hg : A.grownBy B row) (hb : W.heap.size ≤ b0) (hr : ∀ r, row = some r → b0 ≤ r) : KeptS S W B :=
  ⟨Nat.le_trans h.size hg.size, fun k hk hl => (hg.block k (Nat.lt_of_lt_of_le hl h.size) (fun e => by have := hr k e.symm; omega)).trans (h.same k hk hl)⟩
theorem dds1 {A X : World} {D : Nat} (h : A.heap[D]? = some (.deferred (some []))) (hg : A.grownBy X none) : X.heap[D]? = some (.deferred (some [])) := (hg.block D (Array.getElem?_eq_some_iff.1 h).1 (by simp)).trans h
set_option maxRecDepth 100000 in
set_option maxHeartbeats 8000000 in
theorem chunks_walk (a : Option Addr) (n c : Nat) (l : List UInt8) (z M : Int) (w : World) (hz64 : z ≤ 9223372036854775807) (ha : BLies w a l) (hln : l.length = n) (hnc : n ≤ c) (hn : n ≤ 4000) :
    Calls Try.prog 3 #[.slice a n c, .int .i64 z, .int .i64 M] w fun e w' => e = .returned (.bool true) ∧ w.grownBy w' none := by
  obtain ⟨ib, hib, hibz, hibs, _⟩ := info_parts (show (Try.prog.info? 4).map (fun i => (i.zero, i.size, i.bytes)) = some (some (.bool false), 1, 1) by kernel_rfl)
  obtain ⟨ii, hii, hiiz, hiis, _⟩ := info_parts (show (Try.prog.info? 3).map (fun i => (i.zero, i.size, i.bytes)) = some (some (.int .i64 0), 1, 8) by kernel_rfl)
  obtain ⟨il, hil, hilz, hils, _⟩ := info_parts (show (Try.prog.info? 23).map (fun i => (i.zero, i.size, i.bytes)) = some (some (.slice none 0 0), 1, 24) by kernel_rfl)
  obtain ⟨ill, hill, hillz, hills, _⟩ := info_parts (show (Try.prog.info? 24).map (fun i => (i.zero, i.size, i.bytes)) = some (some (.slice none 0 0), 1, 24) by kernel_rfl)
  obtain ⟨iq, hiq, hiqz, hiqs, _⟩ := info_parts (show (Try.prog.info? 29).map (fun i => (i.zero, i.size, i.bytes)) = some (some (.nilFunc), 1, 8) by kernel_rfl)
  obtain ⟨ic, hic, hicz, hics, _⟩ := info_parts (show (Try.prog.info? 33).map (fun i => (i.zero, i.size, i.bytes)) = some (some (.agg #[.slice none 0 0, .slice none 0 0]), 2, 48) by kernel_rfl)
  have HA := Lib.hid ha
  have HLN := Lib.hid hln
  have hd : decide ((4000 : Int) < (n : Int)) = false := decide_eq_false (by omega)
  have hd2 : decide (4000 < n) = false := decide_eq_false (by omega)
  obtain ⟨all, hall⟩ : ∃ all, all = chL z l := ⟨_, rfl⟩
  have HALL := Lib.hid hall
  clear ha hln hall
  refine calls_of_wp_marks Try.func3 rfl ?_
  simp only [Try.ntmps3, List.size_toArray, List.length_cons, List.length_nil, Nat.reduceAdd, Nat.reduceSub, Array.replicate_succ, Array.replicate_zero, List.push_toArray, List.append_toArray, List.nil_append, List.cons_append]
  go_upto_region 1 with (first
    | (refine wpList_box1 rfl rfl (.int .i64 M) rfl rfl ?_; intro w1 hs g hr; have G := Lib.hid g; have R5 := Lib.hid (show Row w1 w.heap.size 3 #[.int .i64 M] from hr); have Z1 := Lib.hid hs; clear hs g hr)
    | (refine wpList_made rfl rfl hib hibz ?_; intro w2 hs g hr; replace G := Lib.hid (grownBy_trans G.out g); replace R5 := Lib.hid (R5.out.grown g); have R6 := Lib.hid (show Row w2 w1.heap.size 4 #[.bool false] from hr); have Z2 := Lib.hid hs; clear hs g hr))
  obtain ⟨b5, hb5⟩ : ∃ b5, b5 = w.heap.size := ⟨_, rfl⟩
  obtain ⟨b6, hb6⟩ : ∃ b6, b6 = w1.heap.size := ⟨_, rfl⟩
  have q5 : w.heap.size ≤ b5 := by rw [hb5]; exact Nat.le_refl _
  have q6 : b5 < b6 := by have := Z1.out; omega
  have z2 : b6 < w2.heap.size := by have := Z2.out; omega
  rw [← hb5] at R5 ⊢
  rw [← hb6] at R6 ⊢
  clear hb5 hb6 Z1 Z2
  go_wp2_with fail
  clear hd hd2
  refine (refChunks_n a c n z hz64 l w2 (HA.out.grown G.out) HLN.out hnc (by omega)).mono ?_
  rintro e w3 ⟨k, pa, pc, qa, qc, Lp, rfl, hkn, hpo, hqo, g⟩
  rw [← HALL.out] at hpo hqo
  replace G := Lib.hid (grownBy_trans G.out g)
  replace R5 := Lib.hid (R5.out.grown g)
  replace R6 := Lib.hid (R6.out.grown g)
  have IP := Lib.hid hpo
  have LQ := Lib.hid hqo
  have z3 : w2.heap.size ≤ w3.heap.size := g.size
  clear hpo hqo g
  go_upto_region 4 with (first
    | (refine wpList_made rfl rfl hil hilz ?_; intro w4 hs g hr; have H := Lib.hid g; have R7 := Lib.hid (show Row w4 w3.heap.size 23 #[.slice none 0 0] from hr); have Z4 := Lib.hid hs; clear hs g hr)
    | (refine wpList_made rfl rfl hill hillz ?_; intro w5 hs g hr; replace H := Lib.hid (grownBy_trans H.out g); replace R7 := Lib.hid (R7.out.grown g); have R8 := Lib.hid (show Row w5 w4.heap.size 24 #[.slice none 0 0] from hr); have Z5 := Lib.hid hs; clear hs g hr)
    | (refine wpList_put1 rfl rfl w3.heap.size rfl (.slice pa k pc) rfl R7.out (by kernel_rfl) rfl ?_; intro w6 hs g hr; replace H := Lib.hid (grownBy_old H.out g (Nat.le_refl _)); replace R8 := Lib.hid (R8.out.grownNe g (by have := Z4.out; omega)); replace R7 := Lib.hid (show Row w6 w3.heap.size 23 #[.slice pa k pc] from hr); have Z6 := Lib.hid g.size; clear hs g hr)
    | (refine wpList_put1 rfl rfl w4.heap.size rfl (.slice qa k qc) rfl R8.out (by kernel_rfl) rfl ?_; intro w7 hs g hr; replace H := Lib.hid (grownBy_old H.out g (by have := Z4.out; omega)); replace R7 := Lib.hid (R7.out.grownNe g (by have := Z4.out; omega)); replace R8 := Lib.hid (show Row w7 w4.heap.size 24 #[.slice qa k qc] from hr); have Z7 := Lib.hid g.size; clear hs g hr))
  obtain ⟨b7, hb7⟩ : ∃ b7, b7 = w3.heap.size := ⟨_, rfl⟩
  obtain ⟨b8, hb8⟩ : ∃ b8, b8 = w4.heap.size := ⟨_, rfl⟩
  have q7 : b6 < b7 := by omega
  have q7w : w3.heap.size ≤ b7 := by rw [hb7]; exact Nat.le_refl _
  have q8 : b7 < b8 := by have := Z4.out; omega
  have z7 : b8 < w7.heap.size := by have h1 := Z5.out; have h2 := Z6.out; have h3 := Z7.out; omega
  rw [← hb7] at R7 ⊢
  rw [← hb8] at R8 ⊢
  replace G := Lib.hid (grownBy_trans G.out H.out)
  replace R5 := Lib.hid (R5.out.grown H.out)
  replace R6 := Lib.hid (R6.out.grown H.out)
  replace IP := Lib.hid (show IOwn w7 _ _ _ _ _ from Own.grownNone IP.out H.out)
  replace LQ := Lib.hid (LQ.out.grown H.out)
  have HPO := Lib.hid (show ∀ y, In pa pc y → y < w7.heap.size from fun y h => (Own.inn IP.out h).2)
  have HLO := Lib.hid (show ∀ y, In qa qc y → y < w7.heap.size from fun y h => (Own.inn LQ.out.outer h).2)
  have HLB := Lib.hid (show ∀ i (hi : i < Lp.length) y, In (Lp[i]).a (Lp[i]).c y → y < w7.heap.size from fun i hi y h => (LQ.out.inn hi h).2)
  clear hb7 hb8 Z4 Z5 Z6 Z7 H
  go_wp2_with fail
  refine (lent_n a c n l w7 (HA.out.grown G.out) HLN.out (by omega)).mono ?_
  rintro e w8 ⟨gF, cF, rfl, oF, g⟩
  have hcF := oF.cap.1
  have YF : Hid (w7.heap.size ≤ gF ∧ gF < w8.heap.size) := Lib.hid (by obtain ⟨g', e, h1, h2⟩ := Own.block oF (by omega); injection e with e; injection e with e; subst e; exact ⟨h1, h2⟩)
  have HF := Lib.hid oF
  replace G := Lib.hid (grownBy_trans G.out g)
  replace R5 := Lib.hid (R5.out.grown g)
  replace R6 := Lib.hid (R6.out.grown g)
  replace R7 := Lib.hid (R7.out.grown g)
  replace R8 := Lib.hid (R8.out.grown g)
  replace IP := Lib.hid (show IOwn w8 _ _ _ _ _ from Own.grownNone IP.out g)
  replace LQ := Lib.hid (LQ.out.grown g)
  have z8 : w7.heap.size ≤ w8.heap.size := g.size
  clear oF g
  have hpre := HF.out.lies.take n
  rw [lent_take l n HLN.out] at hpre
  have HPRE := Lib.hid hpre
  have HPB := Lib.hid (show ∀ b ∈ plB all, b.length ≤ n from fun b hb => by
    rw [HALL.out] at hb
    have := chL_small z l b hb; have := HLN.out; omega)
  clear hpre
  have hcFn : n ≤ cF := by omega
  go_upto_region 6 with (first
    | ((with_reducible show wpList _ _ _ ({ dst := some 32, op := _, type := _, pos := _, after := _, guard := _ } :: _) _ _); refine wpList_valp rfl (run_pre_op _ _ (.tmp 29) (.tmp 31) rfl gF (n + 70) cF n rfl rfl hcFn) ?_)
    | (go_at_call 15; refine (chunks_n (some ⟨gF, 0, none⟩) cF n z l w8 HPRE.out HLN.out (by omega)).mono ?_; rintro e w9 ⟨b1, b2, ao, co, rfl, hck, g⟩; have CK := Lib.hid hck; have G9 := Lib.hid g; clear hck g)
    | (refine wpList_fresh1 rfl rfl rfl rfl rfl hiq hiqz hiqs rfl (.func (.func 61) #[] #[.pointer (some ⟨b1, 0, none⟩), .pointer (some ⟨b2, 0, none⟩)]) rfl rfl rfl ?_; intro w10 hs g hr; have G10 := Lib.hid g; have R10 := Lib.hid (show Row w10 w9.heap.size 29 #[.func (.func 61) #[] #[.pointer (some ⟨b1, 0, none⟩), .pointer (some ⟨b2, 0, none⟩)]] from hr); have Z10 := Lib.hid hs; clear hs g hr))
  have z9 : w8.heap.size ≤ w9.heap.size := G9.out.size
  have g910 := grownBy_trans G9.out G10.out
  replace G := Lib.hid (grownBy_trans G.out g910)
  replace R5 := Lib.hid (R5.out.grown g910)
  replace R6 := Lib.hid (R6.out.grown g910)
  replace R7 := Lib.hid (R7.out.grown g910)
  replace R8 := Lib.hid (R8.out.grown g910)
  replace IP := Lib.hid (show IOwn w10 _ _ _ _ _ from Own.grownNone IP.out g910)
  replace LQ := Lib.hid (LQ.out.grown g910)
  replace HF := Lib.hid (show BOwn w10 _ _ _ _ _ from BOwn.grown HF.out g910)
  replace CK := Lib.hid (CK.out.kept (KeptS.of G10.out))
  obtain ⟨b10, hb10⟩ : ∃ b10, b10 = w9.heap.size := ⟨_, rfl⟩
  have hckb : ∀ y, Chk.S b1 b2 ao co y → w8.heap.size ≤ y ∧ y < w10.heap.size := fun y hy => CK.out.lt hy
  have HCKB := Lib.hid hckb
  have q10 : gF < b10 := by have := YF.out; omega
  have z10 : b10 < w10.heap.size := by have := Z10.out; omega
  rw [← hb10] at R10 ⊢
  clear hb10 Z10 g910 hckb G9 G10 HPRE
  have c10 := Row.cell R10.out 0
  simp at c10
  have hnf := func_nilT (.func 61) #[] #[.pointer (some ⟨b1, 0, none⟩), .pointer (some ⟨b2, 0, none⟩)]
  go_wp2_with fail
  clear c10 hnf
  refine (kept_yes _ _ _ _ n _ l w10 (BOwn.lies HF.out) (HA.out.grown G.out) HLN.out rfl (by omega)).mono ?_
  rintro e w11 ⟨rfl, g⟩
  replace G := Lib.hid (grownBy_trans G.out g)
  replace R5 := Lib.hid (R5.out.grown g)
  replace R6 := Lib.hid (R6.out.grown g)
  replace R7 := Lib.hid (R7.out.grown g)
  replace R8 := Lib.hid (R8.out.grown g)
  replace R10 := Lib.hid (R10.out.grown g)
  replace IP := Lib.hid (show IOwn w11 _ _ _ _ _ from Own.grownNone IP.out g)
  replace LQ := Lib.hid (LQ.out.grown g)
  replace HF := Lib.hid (show BOwn w11 _ _ _ _ _ from BOwn.grown HF.out g)
  replace CK := Lib.hid (CK.out.kept (KeptS.of g))
  have z11 : w10.heap.size ≤ w11.heap.size := g.size
  clear g
  go_upto_region 9 with (refine wpList_made rfl rfl hic hicz ?_; intro w12 hs g hr; have G12 := Lib.hid g; have RC := Lib.hid (show Row w12 w11.heap.size 33 #[.slice none 0 0, .slice none 0 0] from hr); have Z12 := Lib.hid hs; clear hs g hr)
  obtain ⟨bc, hbc⟩ : ∃ bc, bc = w11.heap.size := ⟨_, rfl⟩
  have kc : w11.heap.size ≤ bc := by rw [hbc]; exact Nat.le_refl _
  have kc2 : bc ≤ w11.heap.size := by rw [hbc]; exact Nat.le_refl _
  have qbc : w.heap.size ≤ bc := Nat.le_trans G.out.size kc
  have z12 : bc + 1 ≤ w12.heap.size := by have := Z12.out; omega
  rw [← hbc] at RC ⊢
  clear hbc Z12
  have ch12 : Ch (fun y => bc ≤ y) w11 w12 := Ch.ofNone G12.out _
  have htake : plB all = plB (chL z l) := by rw [HALL.out]
  have HTHR := Lib.hid (fun (W : World) (hW : w12.grownBy W none) => through_n W bc (bc + 1) (by omega) (Nat.le_trans z12 hW.size) (some ⟨gF, 0, none⟩) n cF l z M k pa pc qa qc Lp ⟨none, 0, [], none, 0, []⟩ [] HLN.out hn
    (fun u hu => by
      have hc := (ch12.then hW).trans hu (fun _ _ h => h)
      have h2 : BOwn u w7.heap.size (some ⟨gF, 0, none⟩) (n + 70) cF (lent l) := Own.ch HF.out hc (fun h0 y e h => by have h1 := (Own.inn HF.out (g := y) ⟨h0, e⟩).2; omega)
      have h3 := h2.lies.take n
      rw [lent_take l n HLN.out] at h3
      exact h3)
    (fun u hu => by
      have hc := (ch12.then hW).trans hu (fun _ _ h => h)
      rw [← htake]
      exact (LQ.out.chS hc (fun y hy h => by have := (Own.inn LQ.out.outer hy).2; omega) (fun i hi y hy h => by have := (LQ.out.inn hi hy).2; omega)).lies)
    (fun u hu => by
      have hc := (ch12.then hW).trans hu (fun _ _ h => h)
      rw [← HALL.out]
      exact IOwn.lies (show IOwn u _ _ _ _ _ from Own.ch IP.out hc (fun h0 y e h => by have h1 := (Own.inn IP.out (g := y) ⟨h0, e⟩).2; omega)))
    (by rw [← HALL.out]; have h := IOwn.len IP.out; unfold plN at h; rw [List.length_map] at h; exact h)
    ⟨RC.out.grown hW, ⟨Own.nil _ _ _ _ _, rfl, fun i h => absurd h (by simp), fun i j h => absurd h (by simp)⟩, Own.nil _ _ _ _ _, ⟨rfl, fun i h => absurd h (by simp)⟩, fun y h => absurd h.1 (by simp)⟩
    (by simp) (by omega) (fun b hb => by rw [← HALL.out] at hb; have := HPB.out b hb; omega))
  have ch12' := Lib.hid ch12
  clear ch12 htake
  have c5 := Row.cell (R5.out.grown G12.out) 0
  have c7 := Row.cell (R7.out.grown G12.out) 0
  have c8 := Row.cell (R8.out.grown G12.out) 0
  simp at c5 c7 c8
  have HKE := Lib.hid (fun (W : World) (hW : Ch (fun y => bc ≤ y) w12 W) => kept_yes (some ⟨gF, 0, none⟩) a cF c n (n + 70) l W (by
      have hc := ch12'.out.trans hW (fun _ _ h => h)
      exact (show BOwn W w7.heap.size (some ⟨gF, 0, none⟩) (n + 70) cF (lent l) from Own.ch HF.out hc (fun h0 y e h => by have h1 := (Own.inn HF.out (g := y) ⟨h0, e⟩).2; omega)).lies) (BLies.grown HA.out (Ch.fresh G.out (ch12'.out.trans hW (fun _ _ h => h)) (fun y hy h => by omega))) HLN.out rfl (by omega))
  refine wp_normalC ?_
  refine wp_regionY (fun u => w12.grownBy u none) 8 (by kernel_rfl) (grownBy_drewN w12 1 none) ?_
  refine wpY_take 3 0 (v := .slice (some ⟨gF, 0, none⟩) (n + 70) cF) (oi := { dst := some 43, op := Op.move (Operand.tmp 9), type := 22, pos := "law.go:154", after := #[], guard := none }) (oL := { dst := some 51, op := Op.call { callee := Callee.value (Operand.func 17), args := #[Operand.tmp 11, Operand.tmp 46, Operand.tmp 47, Operand.tmp 48, Operand.tmp 49, Operand.tmp 50], argTypes := #[33, 22, 3, 3, 23, 24] }, type := 4, pos := "law.go:154", after := #[{ on := 3, ground := Ground.data }, { on := 4, ground := Ground.data }, { on := 5, ground := Ground.data }, { on := 6, ground := Ground.data }, { on := 7, ground := Ground.data }], guard := none }) (clo_grown _) rfl rfl rfl (by kernel_rfl) (by kernel_rfl) (by kernel_rfl) (by kernel_rfl) (by kernel_rfl) (fun _ _ _ h => (h : False).elim) (YG.val (by rfl) (fun _ _ => by go_simp)) ?_
  simp only [Act.put, List.setIfInBounds_toArray, List.set_cons_zero, List.set_cons_succ]
  refine wpY_take 3 1 (v := .slice a n c) (oi := { dst := some 44, op := Op.move (Operand.tmp 0), type := 22, pos := "law.go:154", after := #[], guard := none }) (oL := { dst := some 51, op := Op.call { callee := Callee.value (Operand.func 17), args := #[Operand.tmp 11, Operand.tmp 46, Operand.tmp 47, Operand.tmp 48, Operand.tmp 49, Operand.tmp 50], argTypes := #[33, 22, 3, 3, 23, 24] }, type := 4, pos := "law.go:154", after := #[{ on := 3, ground := Ground.data }, { on := 4, ground := Ground.data }, { on := 5, ground := Ground.data }, { on := 6, ground := Ground.data }, { on := 7, ground := Ground.data }], guard := none }) (clo_grown _) rfl rfl rfl (by kernel_rfl) (by kernel_rfl) (by kernel_rfl) (by kernel_rfl) (by kernel_rfl) (fun _ _ _ h => (h : False).elim) (YG.val (by rfl) (fun _ _ => by go_simp)) ?_
  simp only [Act.put, List.setIfInBounds_toArray, List.set_cons_zero, List.set_cons_succ]
  refine wpY_take 3 2 (v := .int .i64 (n : Int)) (oi := { dst := some 45, op := Op.call { callee := Callee.builtin Builtin.len, args := #[Operand.tmp 44], argTypes := #[22] }, type := 3, pos := "law.go:154", after := #[{ on := 1, ground := Ground.data }], guard := none }) (oL := { dst := some 51, op := Op.call { callee := Callee.value (Operand.func 17), args := #[Operand.tmp 11, Operand.tmp 46, Operand.tmp 47, Operand.tmp 48, Operand.tmp 49, Operand.tmp 50], argTypes := #[33, 22, 3, 3, 23, 24] }, type := 4, pos := "law.go:154", after := #[{ on := 3, ground := Ground.data }, { on := 4, ground := Ground.data }, { on := 5, ground := Ground.data }, { on := 6, ground := Ground.data }, { on := 7, ground := Ground.data }], guard := none }) (clo_grown _) rfl rfl rfl (by kernel_rfl) (by kernel_rfl) (by kernel_rfl) (by kernel_rfl) (by kernel_rfl) (fun _ _ _ h => (h : False).elim) (YG.val (by rfl) (fun _ _ => by go_simp)) ?_
  simp only [Act.put, List.setIfInBounds_toArray, List.set_cons_zero, List.set_cons_succ]
  refine wpY_take 3 3 (v := .slice (some ⟨gF, 0, none⟩) n cF) (oi := { dst := some 46, op := Op.slice 22 (Operand.tmp 43) none (some (Operand.tmp 45)) none, type := 22, pos := "law.go:154", after := #[{ on := 0, ground := Ground.data }, { on := 2, ground := Ground.data }], guard := none }) (oL := { dst := some 51, op := Op.call { callee := Callee.value (Operand.func 17), args := #[Operand.tmp 11, Operand.tmp 46, Operand.tmp 47, Operand.tmp 48, Operand.tmp 49, Operand.tmp 50], argTypes := #[33, 22, 3, 3, 23, 24] }, type := 4, pos := "law.go:154", after := #[{ on := 3, ground := Ground.data }, { on := 4, ground := Ground.data }, { on := 5, ground := Ground.data }, { on := 6, ground := Ground.data }, { on := 7, ground := Ground.data }], guard := none }) (clo_grown _) rfl rfl rfl (by kernel_rfl) (by kernel_rfl) (by kernel_rfl) (by kernel_rfl) (by kernel_rfl) (fun _ _ _ h => (h : False).elim) (YG.val (by rfl) (fun u _ => run_pre_op u _ (.tmp 43) (.tmp 45) rfl gF (n + 70) cF n rfl rfl hcFn)) ?_
  simp only [Act.put, List.setIfInBounds_toArray, List.set_cons_zero, List.set_cons_succ]
  refine wpY_take 3 4 (v := .int .i64 z) (oi := { dst := some 47, op := Op.move (Operand.tmp 1), type := 3, pos := "law.go:154", after := #[], guard := none }) (oL := { dst := some 51, op := Op.call { callee := Callee.value (Operand.func 17), args := #[Operand.tmp 11, Operand.tmp 46, Operand.tmp 47, Operand.tmp 48, Operand.tmp 49, Operand.tmp 50], argTypes := #[33, 22, 3, 3, 23, 24] }, type := 4, pos := "law.go:154", after := #[{ on := 3, ground := Ground.data }, { on := 4, ground := Ground.data }, { on := 5, ground := Ground.data }, { on := 6, ground := Ground.data }, { on := 7, ground := Ground.data }], guard := none }) (clo_grown _) rfl rfl rfl (by kernel_rfl) (by kernel_rfl) (by kernel_rfl) (by kernel_rfl) (by kernel_rfl) (fun _ _ _ h => (h : False).elim) (YG.val (by rfl) (fun _ _ => by go_simp)) ?_
  simp only [Act.put, List.setIfInBounds_toArray, List.set_cons_zero, List.set_cons_succ]
  refine wpY_take 3 5 (v := .int .i64 M) (oi := { dst := some 48, op := Op.load 3 (Operand.tmp 5), type := 3, pos := "law.go:154", after := #[], guard := none }) (oL := { dst := some 51, op := Op.call { callee := Callee.value (Operand.func 17), args := #[Operand.tmp 11, Operand.tmp 46, Operand.tmp 47, Operand.tmp 48, Operand.tmp 49, Operand.tmp 50], argTypes := #[33, 22, 3, 3, 23, 24] }, type := 4, pos := "law.go:154", after := #[{ on := 3, ground := Ground.data }, { on := 4, ground := Ground.data }, { on := 5, ground := Ground.data }, { on := 6, ground := Ground.data }, { on := 7, ground := Ground.data }], guard := none }) (clo_grown _) rfl rfl rfl (by kernel_rfl) (by kernel_rfl) (by kernel_rfl) (by kernel_rfl) (by kernel_rfl) (fun _ _ _ h => (h : False).elim) (YG.val (by rfl) (fun u hu => by have c := Row.cell (R5.out.grown (grownBy_trans G12.out hu)) 0; simp at c; go_simp)) ?_
  simp only [Act.put, List.setIfInBounds_toArray, List.set_cons_zero, List.set_cons_succ]
  refine wpY_take 3 6 (v := .slice pa k pc) (oi := { dst := some 49, op := Op.load 23 (Operand.tmp 7), type := 23, pos := "law.go:154", after := #[], guard := none }) (oL := { dst := some 51, op := Op.call { callee := Callee.value (Operand.func 17), args := #[Operand.tmp 11, Operand.tmp 46, Operand.tmp 47, Operand.tmp 48, Operand.tmp 49, Operand.tmp 50], argTypes := #[33, 22, 3, 3, 23, 24] }, type := 4, pos := "law.go:154", after := #[{ on := 3, ground := Ground.data }, { on := 4, ground := Ground.data }, { on := 5, ground := Ground.data }, { on := 6, ground := Ground.data }, { on := 7, ground := Ground.data }], guard := none }) (clo_grown _) rfl rfl rfl (by kernel_rfl) (by kernel_rfl) (by kernel_rfl) (by kernel_rfl) (by kernel_rfl) (fun _ _ _ h => (h : False).elim) (YG.val (by rfl) (fun u hu => by have c := Row.cell (R7.out.grown (grownBy_trans G12.out hu)) 0; simp at c; go_simp)) ?_
  simp only [Act.put, List.setIfInBounds_toArray, List.set_cons_zero, List.set_cons_succ]
  refine wpY_take 3 7 (v := .slice qa k qc) (oi := { dst := some 50, op := Op.load 24 (Operand.tmp 8), type := 24, pos := "law.go:154", after := #[], guard := none }) (oL := { dst := some 51, op := Op.call { callee := Callee.value (Operand.func 17), args := #[Operand.tmp 11, Operand.tmp 46, Operand.tmp 47, Operand.tmp 48, Operand.tmp 49, Operand.tmp 50], argTypes := #[33, 22, 3, 3, 23, 24] }, type := 4, pos := "law.go:154", after := #[{ on := 3, ground := Ground.data }, { on := 4, ground := Ground.data }, { on := 5, ground := Ground.data }, { on := 6, ground := Ground.data }, { on := 7, ground := Ground.data }], guard := none }) (clo_grown _) rfl rfl rfl (by kernel_rfl) (by kernel_rfl) (by kernel_rfl) (by kernel_rfl) (by kernel_rfl) (fun _ _ _ h => (h : False).elim) (YG.val (by rfl) (fun u hu => by have c := Row.cell (R8.out.grown (grownBy_trans G12.out hu)) 0; simp at c; go_simp)) ?_
  simp only [Act.put, List.setIfInBounds_toArray, List.set_cons_zero, List.set_cons_succ]
  refine wpY_last (oL := { dst := some 51, op := Op.call { callee := Callee.value (Operand.func 17), args := #[Operand.tmp 11, Operand.tmp 46, Operand.tmp 47, Operand.tmp 48, Operand.tmp 49, Operand.tmp 50], argTypes := #[33, 22, 3, 3, 23, 24] }, type := 4, pos := "law.go:154", after := #[{ on := 3, ground := Ground.data }, { on := 4, ground := Ground.data }, { on := 5, ground := Ground.data }, { on := 6, ground := Ground.data }, { on := 7, ground := Ground.data }], guard := none }) rfl (by kernel_rfl) (by rfl) (fun u8 hS8 K8 hK8 => ?_)
  refine wp_call_op (f := 17) (args := #[.pointer (some ⟨bc, 0, none⟩), .slice (some ⟨gF, 0, none⟩) n cF, .int .i64 z, .int .i64 M, .slice pa k pc, .slice qa k qc]) (w1 := u8) (by go_simp) ((HTHR.out u8 hS8).mono ?_)
  rintro e w13 ⟨rfl, t13, x13, j13, hck, htj, hch⟩
  have CS := Lib.hid hck
  have HTJ := Lib.hid htj
  have H13 := Lib.hid ((Ch.ofNone hS8 (fun y => bc ≤ y)).trans hch (fun _ _ h => h))
  clear hck htj hch
  refine ⟨_, rfl, hK8 _ _ ?_⟩
  simp only [Act.put, List.setIfInBounds_toArray, List.set_cons_zero, List.set_cons_succ]
  clear hS8 hK8
  refine wpY_any (L := 15) _ (fun u => w13.grownBy u none) _ _ _ ?_ (World.grownBy.refl _ _)
  refine wpY_take 3 9 (v := .bool false) (oi := { dst := some 52, op := Op.unOp UnOp.not 4 (Operand.tmp 51), type := 4, pos := "law.go:154", after := #[{ on := 8, ground := Ground.data }], guard := none }) (oL := { dst := some 58, op := Op.pick (Operand.tmp 53) (Operand.const (Value.bool true)) (Operand.tmp 57), type := 4, pos := "law.go:154", after := #[{ on := 10, ground := Ground.data }, { on := 14, ground := Ground.data }], guard := none }) (clo_grown _) rfl rfl rfl (by kernel_rfl) (by kernel_rfl) (by kernel_rfl) (by kernel_rfl) (by kernel_rfl) (fun _ _ _ h => (h : False).elim) (YG.val (by rfl) (fun _ _ => by go_simp)) ?_
  simp only [Act.put, List.setIfInBounds_toArray, List.set_cons_zero, List.set_cons_succ]
  refine wpY_take 3 10 (v := .bool false) (oi := { dst := some 53, op := Op.move (Operand.tmp 52), type := 4, pos := "law.go:154", after := #[{ on := 9, ground := Ground.data }, { on := 8, ground := Ground.chain }], guard := none }) (oL := { dst := some 58, op := Op.pick (Operand.tmp 53) (Operand.const (Value.bool true)) (Operand.tmp 57), type := 4, pos := "law.go:154", after := #[{ on := 10, ground := Ground.data }, { on := 14, ground := Ground.data }], guard := none }) (clo_grown _) rfl rfl rfl (by kernel_rfl) (by kernel_rfl) (by kernel_rfl) (by kernel_rfl) (by kernel_rfl) (fun _ _ _ h => (h : False).elim) (YG.val (by rfl) (fun _ _ => by go_simp)) ?_
  simp only [Act.put, List.setIfInBounds_toArray, List.set_cons_zero, List.set_cons_succ]
  refine wpY_take 3 11 (v := .slice (some ⟨gF, 0, none⟩) (n + 70) cF) (oi := { dst := some 54, op := Op.move (Operand.tmp 9), type := 22, pos := "law.go:154", after := #[{ on := 10, ground := Ground.guard }], guard := some (10, false) }) (oL := { dst := some 58, op := Op.pick (Operand.tmp 53) (Operand.const (Value.bool true)) (Operand.tmp 57), type := 4, pos := "law.go:154", after := #[{ on := 10, ground := Ground.data }, { on := 14, ground := Ground.data }], guard := none }) (clo_grown _) rfl rfl rfl (by kernel_rfl) (by kernel_rfl) (by kernel_rfl) (by kernel_rfl) (by kernel_rfl) (fun _ _ _ h => (h : False).elim) (YG.val (by rfl) (fun _ _ => by go_simp)) ?_
  simp only [Act.put, List.setIfInBounds_toArray, List.set_cons_zero, List.set_cons_succ]
  refine wpY_take 3 12 (v := .slice a n c) (oi := { dst := some 55, op := Op.move (Operand.tmp 0), type := 22, pos := "law.go:154", after := #[{ on := 10, ground := Ground.guard }], guard := some (10, false) }) (oL := { dst := some 58, op := Op.pick (Operand.tmp 53) (Operand.const (Value.bool true)) (Operand.tmp 57), type := 4, pos := "law.go:154", after := #[{ on := 10, ground := Ground.data }, { on := 14, ground := Ground.data }], guard := none }) (clo_grown _) rfl rfl rfl (by kernel_rfl) (by kernel_rfl) (by kernel_rfl) (by kernel_rfl) (by kernel_rfl) (fun _ _ _ h => (h : False).elim) (YG.val (by rfl) (fun _ _ => by go_simp)) ?_
  simp only [Act.put, List.setIfInBounds_toArray, List.set_cons_zero, List.set_cons_succ]
  refine wpY_take 3 13 (v := .bool true) (oi := { dst := some 56, op := Op.call { callee := Callee.value (Operand.func 16), args := #[Operand.tmp 54, Operand.tmp 55], argTypes := #[22, 22] }, type := 4, pos := "law.go:154", after := #[{ on := 11, ground := Ground.data }, { on := 12, ground := Ground.data }, { on := 10, ground := Ground.chain }, { on := 10, ground := Ground.guard }], guard := some (10, false) }) (oL := { dst := some 58, op := Op.pick (Operand.tmp 53) (Operand.const (Value.bool true)) (Operand.tmp 57), type := 4, pos := "law.go:154", after := #[{ on := 10, ground := Ground.data }, { on := 14, ground := Ground.data }], guard := none }) (clo_grown _) rfl rfl rfl (by kernel_rfl) (by kernel_rfl) (by kernel_rfl) (by kernel_rfl) (by kernel_rfl) (fun _ _ _ h => (h : False).elim) (YG.call (by rfl) (fun _ => by go_simp) (fun u hu => HKE.out u (H13.out.then hu))) ?_
  simp only [Act.put, List.setIfInBounds_toArray, List.set_cons_zero, List.set_cons_succ]
  refine wpY_take 3 14 (v := .bool false) (oi := { dst := some 57, op := Op.unOp UnOp.not 4 (Operand.tmp 56), type := 4, pos := "law.go:154", after := #[{ on := 13, ground := Ground.data }, { on := 10, ground := Ground.guard }], guard := some (10, false) }) (oL := { dst := some 58, op := Op.pick (Operand.tmp 53) (Operand.const (Value.bool true)) (Operand.tmp 57), type := 4, pos := "law.go:154", after := #[{ on := 10, ground := Ground.data }, { on := 14, ground := Ground.data }], guard := none }) (clo_grown _) rfl rfl rfl (by kernel_rfl) (by kernel_rfl) (by kernel_rfl) (by kernel_rfl) (by kernel_rfl) (fun _ _ _ h => (h : False).elim) (YG.val (by rfl) (fun _ _ => by go_simp)) ?_
  simp only [Act.put, List.setIfInBounds_toArray, List.set_cons_zero, List.set_cons_succ]
  refine wpY_last (oL := { dst := some 58, op := Op.pick (Operand.tmp 53) (Operand.const (Value.bool true)) (Operand.tmp 57), type := 4, pos := "law.go:154", after := #[{ on := 10, ground := Ground.data }, { on := 14, ground := Ground.data }], guard := none }) rfl (by kernel_rfl) (by rfl) (fun w14 hS14 K14 hK14 => ?_)
  refine wp_val_op (v := .bool false) (w1 := w14) (by go_simp) (hK14 _ _ ?_)
  simp only [Act.put, List.setIfInBounds_toArray, List.set_cons_zero, List.set_cons_succ]
  refine wpAny_done (by kernel_rfl) ?_ _
  refine QM.mk ?_
  show Exit.then _ _ _ _ _
  have CS14 := Lib.hid (CS.out.nc (b0 := 0) hS14 (fun r e => by cases e))
  have H14 := Lib.hid ((ch12'.out.trans H13.out (fun _ _ h => h)).then hS14)
  clear hS14 hK14 CS H13 HKE HTHR
  have HF14 := Lib.hid (show BOwn w14 w7.heap.size (some ⟨gF, 0, none⟩) (n + 70) cF (lent l) from Own.ch HF.out H14.out (fun h0 y e h => by have h1 := (Own.inn HF.out (g := y) ⟨h0, e⟩).2; omega))
  go_wp2_with fail
  refine (over_n _ gF cF (n + 70) (lent l) w14 HF14.out (by omega)).mono ?_
  rintro e w15 ⟨rfl, _, g⟩
  have yF := YF.out
  have qFc : gF < bc := by omega
  have hF : Ch (fun y => y = gF) w14 w15 := Ch.ofSome g rfl
  have G15 := Lib.hid (show w.grownBy w15 none from grownBy_old (Ch.fresh G.out H14.out (fun y hy h => by omega)) g (by have := G.out.size; omega))
  replace R5 := Lib.hid ((R5.out.ch H14.out (by omega)).ch hF (by omega))
  replace R6 := Lib.hid ((R6.out.ch H14.out (by omega)).ch hF (by omega))
  replace R7 := Lib.hid ((R7.out.ch H14.out (by omega)).ch hF (by omega))
  replace R8 := Lib.hid ((R8.out.ch H14.out (by omega)).ch hF (by omega))
  replace R10 := Lib.hid ((R10.out.ch H14.out (by omega)).ch hF (by omega))
  replace IP := Lib.hid (show IOwn w15 _ _ _ _ _ from Own.ch (Own.ch IP.out H14.out (fun h0 y e h => by have := HPO.out y ⟨h0, e⟩; omega)) hF (fun h0 y e h => by have := HPO.out y ⟨h0, e⟩; omega))
  replace LQ := Lib.hid ((LQ.out.chS H14.out (fun y hy h => by have := HLO.out y hy; omega) (fun i hi y hy h => by have := HLB.out i hi y hy; omega)).chS hF (fun y hy h => by have := HLO.out y hy; omega) (fun i hi y hy h => by have := HLB.out i hi y hy; omega))
  replace CK := Lib.hid ((CK.out.kept (KeptS.ch H14.out (fun y hy h => by have := (HCKB.out y hy).2; omega))).kept (KeptS.ch hF (fun y hy h => by have := (HCKB.out y hy).1; omega)))
  have CS := Lib.hid (show CkS bc (bc + 1) Lp (plB all) t13 x13 w15 from (HALL.out ▸ CS14.out : CkS bc (bc + 1) Lp (plB all) t13 x13 w14).ch hF (by omega) (fun y hy e => by omega) (fun h => by have := (Own.inn CS14.out.2.1.outer h).1; omega) (fun h => by have := (Own.inn CS14.out.2.2.1 h).1; omega) (fun i hi h => by have := (CS14.out.2.1.inn hi h).1; omega))
  have hpk : (plB all).length = k := by have h := IOwn.len IP.out; unfold plN at h; rw [List.length_map] at h; unfold plB; rw [List.length_map]; exact h
  have HPK := Lib.hid hpk
  have htl : t13.length ≤ 4000 := by rw [HTJ.out, List.nil_append, List.length_take, ← HALL.out, hpk]; omega
  have HTL := Lib.hid htl
  have HIPb := Lib.hid (show ∀ y, In pa pc y → y < bc from fun y h => by have := HPO.out y h; omega)
  have HLOb := Lib.hid (show ∀ y, In qa qc y → y < bc from fun y h => by have := HLO.out y h; omega)
  have HLBb := Lib.hid (show ∀ i (hi : i < Lp.length) y, In (Lp[i]).a (Lp[i]).c y → y < bc from fun i hi y h => by have := HLB.out i hi y h; omega)
  clear hF g hpk htl CS14 HF14 H14 HF YF HTJ G12 RC G HPO HLO HLB
  have z15 : bc < w15.heap.size := CS.out.1.lt
  have HCK := Lib.hid (show ∀ u, Ch (fun y => bc ≤ y) w15 u → Chk u w8.heap.size b1 b2 z ao n co l from fun u hu => CK.out.kept (KeptS.ch hu (fun y hy h => by have := (HCKB.out y hy).2; omega)))
  have HIP := Lib.hid (show ∀ y, In pa pc y → y < bc from fun y h => HIPb.out y h)
  have HLIE := Lib.hid (show ∀ u, Ch (fun y => bc ≤ y) w15 u → LLies u qa Lp (plB all) from fun u hu => (LQ.out.chS hu (fun y hy h => by have := HLOb.out y hy; omega) (fun i hi y hy h => by have := HLBb.out i hi y hy; omega)).lies)
  have HINT := Lib.hid (show ∀ u, Ch (fun y => bc ≤ y) w15 u → Lies u pa (IV (plN all)) from fun u hu => IOwn.lies (show IOwn u _ _ _ _ _ from Own.ch IP.out hu (fun h0 y e h => by have := HIPb.out y ⟨h0, e⟩; omega)))
  clear HIP
  go_wp2_with (refine wpList_fresh1 rfl rfl rfl rfl rfl hii hiiz hiis rfl (.int .i64 0) rfl rfl rfl ?_; intro v0 hs g hr; have GV := Lib.hid g; have RR := Lib.hid (show Row v0 w15.heap.size 3 #[.int .i64 0] from hr); clear hs g hr)
  obtain ⟨b12, hb12⟩ : ∃ b12, b12 = w15.heap.size := ⟨_, rfl⟩
  have q12 : bc < b12 := by rw [hb12]; exact z15
  rw [← hb12] at RR ⊢
  clear hb12
  have HC := Lib.hid (Ch.ofNone GV.out (fun y => bc ≤ y))
  replace CS := Lib.hid (CS.out.nc (b0 := 0) GV.out (fun r e => by cases e))
  have HDS : Hid (∀ D ∈ ([] : List Nat), w15.heap.size ≤ D ∧ v0.heap[D]? = some (.deferred (some []))) := Lib.hid (fun D h => absurd h (by simp))
  clear GV
  obtain ⟨t, ht⟩ : ∃ t, t = t13 := ⟨_, rfl⟩
  obtain ⟨x, hx⟩ : ∃ x, x = x13 := ⟨_, rfl⟩
  rw [← ht, ← hx] at CS
  rw [← ht] at HTL
  clear ht hx
  refine wp_loop_rounds 4 ?_
  rw [rounds_succ]
  have c12 := Row.cell RR.out 0
  have c10 := Row.cell (R10.out.ch HC.out (by omega)) 0
  simp at c12 c10
  go_wp2_with (refine wpList_fresh1 rfl rfl rfl rfl rfl hii hiiz hiis rfl (.int .i64 0) rfl rfl rfl ?_; intro v1 hs g hr; have GV := Lib.hid g; have RN := Lib.hid (show Row v1 v0.heap.size 3 #[.int .i64 0] from hr); have c10' := Row.cell ((R10.out.ch HC.out (by omega)).grown g) 0; simp at c10'; clear hs g hr c10 c12)
  clear c10'
  obtain ⟨b13, hb13⟩ : ∃ b13, b13 = v0.heap.size := ⟨_, rfl⟩
  obtain ⟨hi, hhi⟩ : ∃ hi, hi = v1.heap.size := ⟨_, rfl⟩
  have q13 : b12 < b13 := by rw [hb13]; exact RR.out.lt
  rw [← hb13] at RN ⊢
  have qhi : b13 < hi := by rw [hhi]; exact RN.out.lt
  have HHI := Lib.hid hhi
  clear hb13 hhi
  replace RR := Lib.hid (RR.out.grown GV.out)
  replace HC := Lib.hid (HC.out.then GV.out)
  replace CS := Lib.hid (CS.out.nc (b0 := 0) GV.out (fun r e => by cases e))
  replace HDS := Lib.hid (show ∀ D ∈ ([] : List Nat), w15.heap.size ≤ D ∧ D < hi ∧ v1.heap[D]? = some (.deferred (some [])) from fun D hD => ⟨(HDS.out D hD).1, (by have h := dds1 (HDS.out D hD).2 GV.out; rw [HHI.out]; exact (Array.getElem?_eq_some_iff.1 h).1), dds1 (HDS.out D hD).2 GV.out⟩)
  have HCV := Lib.hid HC.out
  have HDO := Lib.hid (show ∀ D ∈ ([] : List Nat), w15.heap.size ≤ D from fun D hD => (HDS.out D hD).1)
  clear GV
  have hhi1 : hi ≤ v1.heap.size := by rw [HHI.out]; exact Nat.le_refl _
  have hhi2 : v1.heap.size ≤ hi := by rw [HHI.out]; exact Nat.le_refl _
  refine (wpIn_wide (n := 3)).1 ?_
  refine wpIn_rangeOkL (F := Fence.wide) (n := 3) rfl (by omega) (gf := 61) (lb := #[.pointer (some ⟨b1, 0, none⟩), .pointer (some ⟨b2, 0, none⟩)]) rfl trivial (enters_of Try.func61 (by kernel_rfl) rfl)
    (chunks1_in 2 _ b1 b2 z ao n co l v1 (HCK.out v1 HC.out) (by omega)) KeptS.trans (fun W l o o' hl _ _ _ => KeptS.put W l o' (fun hs => by have := (HCKB.out _ hs).2; omega))
    (fun pre x W0 W l o o' h hl ho => h.put l o' hl ho) (Below.refl _ _) (fun _ => rfl)
    (LwI w15 b12 b13 bc hi 0 [] Lp (plB all) t) (fun _ _ _ => False) (LwI.own (by omega) (by omega)) (fun _ _ _ _ _ hs _ _ => hs.elim)
    ⟨x, RR.out, RN.out, by simpa using CS.out, HC.out, by omega, fun D hD => (HDS.out D hD).2⟩
    (fun T y => (((T.setIfInBounds 66 (.int .i64 (y.at_ : Int))).setIfInBounds 67 y.sl.val).setIfInBounds 14 (.int .i64 (y.at_ : Int))).setIfInBounds 15 y.sl.val) ?assign0 ?body0 ?done0 ?stop0
  case assign0 =>
    intro lp x W K hK
    simp only [Pce.vals]
    gi_wp2
    exact hK
  case body0 =>
    rintro lp pre ⟨at_, ⟨sa, sm, sc⟩, pb⟩ W0 W hlp hrec hI0 hI hkc hok
    obtain ⟨⟨ga, gc, Lg, wa, wc, Lw⟩, r12, r13, ⟨rc, lg0, sw0, wok, dj⟩, _, hz0, _⟩ := hI0
    obtain ⟨_, _, _, _, hchW, hzW, hdW⟩ := hI
    simp only at rc lg0 sw0 wok dj
    have rr := hok.at_
    rw [← HALL.out] at rr
    obtain ⟨rr, hrr⟩ := rr
    obtain ⟨np, hnp⟩ : ∃ np, np = pre.length := ⟨_, rfl⟩
    have hpk := HPK.out
    have hal : all.length = k := by rw [← hpk, plB, List.length_map]
    have hnk : np < k := by rw [← hal, ← hrr, hnp]; simp
    have hPn : np < (plB all).length := by rw [hpk]; exact hnk
    have hPe : pb = (plB all)[np] := by
      have h : (plB all)[np]? = some pb := by
        rw [plB, ← hrr, List.map_append, List.getElem?_append_right (by simp [hnp])]
        simp [hnp, Pce.pr]
      rw [List.getElem?_eq_getElem hPn] at h
      injection h with h
      exact h.symm
    have hat : (plN all).getD np 0 = (at_ : Int) := by
      rw [List.getD_eq_getElem?_getD, plN, ← hrr, List.map_append, List.getElem?_append_right (by simp [hnp])]
      simp [hnp, Pce.pr]
    have hat0 : np = 0 → at_ = 0 := fun h0 => by
      obtain rfl : pre = [] := List.eq_nil_of_length_eq_zero (by omega)
      have h1 : (all)[0]? = some (at_, pb) := by rw [← hrr]; rfl
      rw [HALL.out] at h1
      exact chL_first z l at_ pb h1
    have hown : BOwn W W0.heap.size sa sm sc pb := hok.own
    have hsm : pb.length = sm := BOwn.len hown
    have hpb4 : pb.length ≤ 4000 := by have := HPB.out pb (by rw [hPe]; exact List.getElem_mem _); omega
    obtain ⟨hl1, hl2, hl3⟩ := HLIE.out W hchW
    have hLn : np < Lp.length := by rw [hl2]; exact hPn
    obtain ⟨qb, qo, hqa, hq0⟩ := hl1 np (by rw [List.length_map]; exact hLn)
    clear hq0
    obtain ⟨⟨xa, xn, xc⟩, hs⟩ : ∃ s, s = Lp[np] := ⟨_, rfl⟩
    have hqc : ∀ u, Ch (fun y => bc ≤ y) w15 u → u.cell? ⟨qb, qo + np, none⟩ = some (.slice xa xn xc) := fun u hu => by
      obtain ⟨b', o', e, hc⟩ := (HLIE.out u hu).1 np (by rw [List.length_map]; exact hLn)
      rw [hqa] at e
      injection e with e; injection e with e1 e2
      subst e1; subst e2
      rw [hc, List.getElem_map, ← hs]
      rfl
    have HQC := Lib.hid hqc
    have hcq := hqc W hchW
    obtain ⟨hxl, hxn⟩ := hl3 np hLn hPn
    rw [← hs, ← hPe] at hxl hxn
    simp only at hxl hxn
    obtain ⟨ib2, io2, hpa, hpc⟩ := ints_cells (HINT.out W hchW) (by rw [plN, List.length_map, hal]; omega)
    have hcp := hpc np (by rw [plN, List.length_map, hal]; exact hnk)
    rw [hat] at hcp
    rw [← hnp] at r13
    obtain ⟨T, hT⟩ : ∃ T, T = t ++ pre.map Pce.b := ⟨_, rfl⟩
    obtain ⟨m, hm⟩ : ∃ m, m = T.length := ⟨_, rfl⟩
    rw [← hT] at rc lg0 sw0 wok
    rw [← hm] at rc lg0 sw0
    have hm4 : m ≤ 8100 := by rw [hm, hT, List.length_append, List.length_map, ← hnp]; have := HTL.out; omega
    have HSAME := Lib.hid (same_yes sa xa sc xc sm xn pb W hown.lies hxl hsm hxn.symm (by unfold maxLen; omega))
    have LG0 := Lib.hid lg0
    have LG := Lib.hid (lg0.keptC hkc)
    have SW := Lib.hid (show SOwn W (bc + 1) wa m wc Lw from Own.keptC sw0 hkc)
    have RC := Lib.hid (rc.keptC hkc)
    have Q12 := Lib.hid (r12.keptC hkc)
    have Q13 := Lib.hid (r13.keptC hkc)
    have HOWN := Lib.hid hown
    have HCW := Lib.hid hchW
    have HZ0 := Lib.hid hz0
    have HKZ := Lib.hid hkc.size
    have HDD := Lib.hid hdW
    have HWOK := Lib.hid wok
    have DJ := Lib.hid dj
    have HNP := Lib.hid hnp
    have HSX := Lib.hid hs
    have HPE := Lib.hid hPe
    have HTT := Lib.hid hT
    have HM := Lib.hid hm
    have HLP := Lib.hid hlp
    have HREC := Lib.hid hrec
    have HQA := Lib.hid hqa
    have HAT0 := Lib.hid hat0
    have c13 := Row.cell Q13.out 0
    have c8 := Row.cell (R8.out.ch hchW (by omega)) 0
    have c7 := Row.cell (R7.out.ch hchW (by omega)) 0
    simp at c13 c8 c7
    rw [hqa] at c8
    rw [hpa] at c7
    have hge : decide ((k : Int) ≤ (np : Int)) = false := decide_eq_false (by omega)
    have hge2 : decide (k ≤ np) = false := decide_eq_false (by omega)
    have hne : ((at_ : Int) != (at_ : Int)) = false := by simp
    clear hrr hok hown hl1 hl2 hl3 hqc hxl hpc lg0 sw0 rc r12 r13 hchW hz0 hkc wok dj hnp hs hPe hT hm hat hxn rr hqa hpa hal hpk hdW hlp hrec hzW hat0
    simp only [List.setIfInBounds_toArray, List.set_cons_zero, List.set_cons_succ, Sl.val]
    refine wpIn_block ?_
    refine wpIn_seq_k fun K1 hK1 => ?_
    have HK1 := Lib.hid hK1
    clear hK1
    gi_wp2_with ((with_reducible refine And.intro ?hh ?_); (case hh => exact trivial); gi_at_call 19; refine (calls_wide HSAME.out).mono ?_; rintro e W1 ⟨rfl, q5, hq5⟩; have GW1 := Lib.hid (show W.grownBy W1 none from hq5 ▸ grownBy_drewN _ _ _); clear hq5 q5)
    refine HK1.out _ _ ?_
    clear HK1 c13 c8 c7 hcp hcq hge hge2 hne
    have LG1 := Lib.hid (LG.out.grown GW1.out)
    have OWN1 := Lib.hid (BOwn.grown HOWN.out GW1.out)
    have SW1 := Lib.hid (show SOwn W1 (bc + 1) wa m wc Lw from Own.grownNone SW.out GW1.out)
    have RC1 := Lib.hid (RC.out.grown GW1.out)
    have Q121 := Lib.hid (Q12.out.grown GW1.out)
    have Q131 := Lib.hid (Q13.out.grown GW1.out)
    have HC1 := Lib.hid (HCW.out.then GW1.out)
    obtain ⟨np1, hnp1⟩ : ∃ np1, np1 = np + 1 := ⟨_, rfl⟩
    have hw1 : IntKind.i64.wrap ((np : Int) + 1) = (np1 : Int) := by rw [IntWalk.i64_in _ (by omega)]; omega
    have HNP1 := Lib.hid hnp1
    have c13 := Row.cell Q131.out 0
    simp at c13
    clear hnp1
    refine wpIn_seq ?_
    refine wpIn_regionP (by kernel_rfl) ?_
    go_wp2_with (refine wpList_put1 rfl rfl b13 rfl (.int .i64 (np1 : Int)) rfl Q131.out (by kernel_rfl) rfl ?_; intro W2 hs g hr; have Q132 := Lib.hid (show Row W2 b13 3 #[.int .i64 (np1 : Int)] from hr); have C2 := Lib.hid (Ch.ofSome (S := fun y => y = b13) g rfl); clear hs g hr)
    refine ⟨rfl, ?_⟩
    show Code.wpIn _ _ _ _ _ _ _
    clear c13 hw1
    have LG2 := Lib.hid (LG1.out.chS C2.out (fun y hy h => by subst h; exact row_in Q131.out LG1.out.outer (by decide) hy) (fun i hi y hy h => by subst h; exact row_in Q131.out (LG1.out.inner i hi (by have := LG1.out.len; omega)) (by decide) hy))
    have OWN2 := Lib.hid (show BOwn W2 W0.heap.size sa sm sc pb from Own.ch OWN1.out C2.out (fun h0 y e h => by subst h; exact row_in Q131.out OWN1.out (by decide) ⟨h0, e⟩))
    have SW2 := Lib.hid (show SOwn W2 (bc + 1) wa m wc Lw from Own.ch SW1.out C2.out (fun h0 y e h => by subst h; exact row_in Q131.out SW1.out (by decide) ⟨h0, e⟩))
    have RC2 := Lib.hid (RC1.out.ch C2.out (by omega))
    have Q122 := Lib.hid (Q121.out.ch C2.out (by omega))
    have HC2 := Lib.hid (HC1.out.trans (C2.out.mono (fun y _ h => by omega)) (fun _ _ h => h))
    have OG2 := Lib.hid (show Own W2 (bc + 1) 22 1 ga m gc (Lg.map Sl.val) from LG2.out.outer)
    have ZB2 := Lib.hid (show bc + 1 ≤ W2.heap.size from RC2.out.lt)
    have cg := Row.cell RC2.out 0
    simp at cg
    refine wpIn_seq ?_
    refine wpIn_regionP (by kernel_rfl) ?_
    go_wp2_with (first
      | ((with_reducible show wpList _ _ _ ({ dst := some 95, op := _, type := _, pos := _, after := _, guard := _ } :: _) _ _); refine wpList_push elS rfl (.tmp 92) (.tmp 94) rfl rfl OG2.out (.slice sa sm sc) rfl rfl (by unfold maxLen; omega) (by omega) ZB2.out ?_; intro g3 cp3 W3 hown hgr; have O3 := Lib.hid hown; have GR3 := Lib.hid hgr; have RC3 := Lib.hid (RC2.out.ch hgr.ch (row_in RC2.out OG2.out (by decide))); have cg3 := Row.cell RC3.out 0; have fg3 := Row.frozen RC3.out 0; simp at cg3; clear hown hgr cg)
      | ((with_reducible show wpList _ _ _ ({ dst := none, op := _, type := _, pos := _, after := _, guard := _ } :: _) _ _); refine wpList_skipC rfl (w1 := W3.setCell ⟨bc, 0, none⟩ (.slice (some ⟨g3, 0, none⟩) (m + 1) cp3)) (by go_simp) ?_))
    obtain ⟨W4, hW4⟩ : ∃ W4, W4 = W3.setCell ⟨bc, 0, none⟩ (.slice (some ⟨g3, 0, none⟩) (m + 1) cp3) := ⟨_, rfl⟩
    rw [← hW4]
    have hg4 : W3.grownBy W4 (some bc) := hW4 ▸ grownBy_setCell _ _ _ _
    have RC4 := Lib.hid (show Row W4 bc 33 #[.slice (some ⟨g3, 0, none⟩) (m + 1) cp3, .slice wa m wc] from hW4 ▸ Row.setc RC3.out 0 _)
    refine ⟨rfl, ?_⟩
    show Code.wpIn _ _ _ _ _ _ _
    have hb3 := row_in RC3.out O3.out (by decide)
    have O4 := Lib.hid (Own.ch O3.out (Ch.ofSome (S := fun y => y = bc) hg4 rfl) (fun h0 y e h => by subst h; exact hb3 ⟨h0, e⟩))
    have C4 := Lib.hid (show Ch (fun y => In ga gc y ∨ y = bc) W2 W4 from (GR3.out.ch.mono (fun _ _ h => .inl h)).trans (Ch.ofSome (S := fun y => In ga gc y ∨ y = bc) hg4 (.inr rfl)) (fun _ _ h => h))
    have I4 := Lib.hid (show ∀ y, In (some ⟨g3, 0, none⟩) cp3 y → In ga gc y ∨ W2.heap.size ≤ y from fun y hy => GR3.out.inn hy)
    clear cg3 fg3 hW4 hg4 hb3 RC3
    have n4 : ∀ y cs (T' : TypeId), Row W2 y T' cs → T' ≠ 22 → y ≠ bc → ¬ (In ga gc y ∨ y = bc) := fun y cs T' hr hT h h2 => h2.elim (row_in hr OG2.out hT) h
    have Q124 := Lib.hid (Q122.out.ch C4.out (n4 _ _ _ Q122.out (by decide) (by omega)))
    have Q134 := Lib.hid (Q132.out.ch C4.out (n4 _ _ _ Q132.out (by decide) (by omega)))
    have LG4 := Lib.hid (LIs.pushR LG0.out (by have := HZ0.out; omega) LG2.out OWN2.out (by omega) C4.out O4.out)
    have SW4 := Lib.hid (show SOwn W4 (bc + 1) wa m wc Lw from Own.ch SW2.out C4.out (fun h0 y e h => by
      rcases h with h | rfl
      · exact DJ.out y h ⟨h0, e⟩
      · have := (Own.inn SW2.out (g := y) ⟨h0, e⟩).1; omega))
    have HGB := Lib.hid (show ∀ y, In ga gc y → bc ≤ y from fun y h => by have := (Own.inn OG2.out h).1; omega)
    have HWB := Lib.hid (show ∀ y, In wa wc y → bc ≤ y from fun y h => by have := (Own.inn SW2.out h).1; omega)
    have HC4 := Lib.hid (HC2.out.trans (C4.out.mono (fun y _ h => h.elim (fun h => HGB.out _ h) (fun h => by omega))) (fun _ _ h => h))
    have ZB4 := Lib.hid (show bc + 1 ≤ W4.heap.size from RC4.out.lt)
    have DJ4 := Lib.hid (show ∀ y, In (some ⟨g3, 0, none⟩) cp3 y → In wa wc y → False from fun y h1 h2 => (I4.out y h1).elim (fun h => DJ.out y h h2) (fun h => by have := (Own.inn SW2.out h2).2; omega))
    have OW4 := Lib.hid (show Own W4 (bc + 1) 22 1 wa m wc (Lw.map Sl.val) from SW4.out)
    have R84 := Lib.hid (show Row W4 b8 24 #[.slice (some ⟨qb, qo, none⟩) k qc] from HQA.out ▸ R8.out.ch HC4.out (by omega))
    have hw5 : IntKind.i64.wrap ((np1 : Int) - 1) = (np : Int) := by have := HNP1.out; rw [IntWalk.i64_in _ (by omega)]; omega
    clear n4
    refine wpIn_seq ?_
    refine wpIn_regionX (AppS W4 (bc + 1) 22 wa m wc (Lw.map Sl.val)) 10 (by kernel_rfl) (by kernel_rfl) ⟨Ch.ofNone (grownBy_drewN W4 1 none) _, Own.grownNone OW4.out (grownBy_drewN W4 1 none)⟩ ?_
    refine wpX_take 0 (v := .pointer (some ⟨bc, 1, none⟩)) (oi := { dst := some 97, op := Op.fieldAddr 33 (Operand.tmp 11) 1, type := 0, pos := "law.go:166", after := #[], guard := none }) (oL := { dst := none, op := Op.store 24 (Operand.tmp 106) (Operand.tmp 105), type := 0, pos := "law.go:166", after := #[{ on := 9, ground := Ground.data }, { on := 8, ground := Ground.data }, { on := 8, ground := Ground.chain }, { on := 0, ground := Ground.phase }, { on := 1, ground := Ground.phase }, { on := 2, ground := Ground.phase }, { on := 3, ground := Ground.phase }, { on := 4, ground := Ground.phase }, { on := 5, ground := Ground.phase }, { on := 6, ground := Ground.phase }, { on := 7, ground := Ground.phase }, { on := 8, ground := Ground.phase }], guard := none }) (clo_app _ _ _ _ _ _ _) rfl rfl rfl (by kernel_rfl) (by kernel_rfl) (by kernel_rfl) (by kernel_rfl) (by kernel_rfl) (fun _ _ _ h => by cases h.1) (YG.val (by rfl) (fun _ _ => by go_simp)) ?_
    simp only [Act.put, List.setIfInBounds_toArray, List.set_cons_zero, List.set_cons_succ]
    refine wpX_take 1 (v := .slice wa m wc) (oi := { dst := some 98, op := Op.load 24 (Operand.tmp 97), type := 24, pos := "law.go:166", after := #[{ on := 0, ground := Ground.data }], guard := none }) (oL := { dst := none, op := Op.store 24 (Operand.tmp 106) (Operand.tmp 105), type := 0, pos := "law.go:166", after := #[{ on := 9, ground := Ground.data }, { on := 8, ground := Ground.data }, { on := 8, ground := Ground.chain }, { on := 0, ground := Ground.phase }, { on := 1, ground := Ground.phase }, { on := 2, ground := Ground.phase }, { on := 3, ground := Ground.phase }, { on := 4, ground := Ground.phase }, { on := 5, ground := Ground.phase }, { on := 6, ground := Ground.phase }, { on := 7, ground := Ground.phase }, { on := 8, ground := Ground.phase }], guard := none }) (clo_app _ _ _ _ _ _ _) rfl rfl rfl (by kernel_rfl) (by kernel_rfl) (by kernel_rfl) (by kernel_rfl) (by kernel_rfl) (fun _ _ _ h => by cases h.1) (YG.val (by rfl) (fun u hu => by have c := Row.cell (RC4.out.ch hu.1 (row_in RC4.out OW4.out (by decide))) 1; simp at c; go_simp)) ?_
    simp only [Act.put, List.setIfInBounds_toArray, List.set_cons_zero, List.set_cons_succ]
    refine wpX_take 2 (v := .slice (some ⟨qb, qo, none⟩) k qc) (oi := { dst := some 99, op := Op.load 24 (Operand.tmp 8), type := 24, pos := "law.go:166", after := #[], guard := none }) (oL := { dst := none, op := Op.store 24 (Operand.tmp 106) (Operand.tmp 105), type := 0, pos := "law.go:166", after := #[{ on := 9, ground := Ground.data }, { on := 8, ground := Ground.data }, { on := 8, ground := Ground.chain }, { on := 0, ground := Ground.phase }, { on := 1, ground := Ground.phase }, { on := 2, ground := Ground.phase }, { on := 3, ground := Ground.phase }, { on := 4, ground := Ground.phase }, { on := 5, ground := Ground.phase }, { on := 6, ground := Ground.phase }, { on := 7, ground := Ground.phase }, { on := 8, ground := Ground.phase }], guard := none }) (clo_app _ _ _ _ _ _ _) rfl rfl rfl (by kernel_rfl) (by kernel_rfl) (by kernel_rfl) (by kernel_rfl) (by kernel_rfl) (fun _ _ _ h => by cases h.1) (YG.val (by rfl) (fun u hu => by have c := Row.cell (R84.out.ch hu.1 (row_in R84.out OW4.out (by decide))) 0; simp at c; go_simp)) ?_
    simp only [Act.put, List.setIfInBounds_toArray, List.set_cons_zero, List.set_cons_succ]
    refine wpX_take 3 (v := .int .i64 (np1 : Int)) (oi := { dst := some 100, op := Op.load 3 (Operand.tmp 13), type := 3, pos := "law.go:166", after := #[], guard := none }) (oL := { dst := none, op := Op.store 24 (Operand.tmp 106) (Operand.tmp 105), type := 0, pos := "law.go:166", after := #[{ on := 9, ground := Ground.data }, { on := 8, ground := Ground.data }, { on := 8, ground := Ground.chain }, { on := 0, ground := Ground.phase }, { on := 1, ground := Ground.phase }, { on := 2, ground := Ground.phase }, { on := 3, ground := Ground.phase }, { on := 4, ground := Ground.phase }, { on := 5, ground := Ground.phase }, { on := 6, ground := Ground.phase }, { on := 7, ground := Ground.phase }, { on := 8, ground := Ground.phase }], guard := none }) (clo_app _ _ _ _ _ _ _) rfl rfl rfl (by kernel_rfl) (by kernel_rfl) (by kernel_rfl) (by kernel_rfl) (by kernel_rfl) (fun _ _ _ h => by cases h.1) (YG.val (by rfl) (fun u hu => by have c := Row.cell (Q134.out.ch hu.1 (row_in Q134.out OW4.out (by decide))) 0; simp at c; go_simp)) ?_
    simp only [Act.put, List.setIfInBounds_toArray, List.set_cons_zero, List.set_cons_succ]
    refine wpX_take 4 (v := .int .i64 (np : Int)) (oi := { dst := some 101, op := Op.binOp BinOp.sub 3 (Operand.tmp 100) (Operand.const (Value.int IntKind.i64 1)) 3, type := 3, pos := "law.go:166", after := #[{ on := 3, ground := Ground.data }], guard := none }) (oL := { dst := none, op := Op.store 24 (Operand.tmp 106) (Operand.tmp 105), type := 0, pos := "law.go:166", after := #[{ on := 9, ground := Ground.data }, { on := 8, ground := Ground.data }, { on := 8, ground := Ground.chain }, { on := 0, ground := Ground.phase }, { on := 1, ground := Ground.phase }, { on := 2, ground := Ground.phase }, { on := 3, ground := Ground.phase }, { on := 4, ground := Ground.phase }, { on := 5, ground := Ground.phase }, { on := 6, ground := Ground.phase }, { on := 7, ground := Ground.phase }, { on := 8, ground := Ground.phase }], guard := none }) (clo_app _ _ _ _ _ _ _) rfl rfl rfl (by kernel_rfl) (by kernel_rfl) (by kernel_rfl) (by kernel_rfl) (by kernel_rfl) (fun _ _ _ h => by cases h.1) (YG.val (by rfl) (fun _ _ => by go_simp)) ?_
    simp only [Act.put, List.setIfInBounds_toArray, List.set_cons_zero, List.set_cons_succ]
    refine wpX_take 5 (v := .pointer (some ⟨qb, qo + np, none⟩)) (oi := { dst := some 102, op := Op.indexAddr 24 (Operand.tmp 99) (Operand.tmp 101), type := 0, pos := "law.go:166", after := #[{ on := 2, ground := Ground.data }, { on := 4, ground := Ground.data }], guard := none }) (oL := { dst := none, op := Op.store 24 (Operand.tmp 106) (Operand.tmp 105), type := 0, pos := "law.go:166", after := #[{ on := 9, ground := Ground.data }, { on := 8, ground := Ground.data }, { on := 8, ground := Ground.chain }, { on := 0, ground := Ground.phase }, { on := 1, ground := Ground.phase }, { on := 2, ground := Ground.phase }, { on := 3, ground := Ground.phase }, { on := 4, ground := Ground.phase }, { on := 5, ground := Ground.phase }, { on := 6, ground := Ground.phase }, { on := 7, ground := Ground.phase }, { on := 8, ground := Ground.phase }], guard := none }) (clo_app _ _ _ _ _ _ _) rfl rfl rfl (by kernel_rfl) (by kernel_rfl) (by kernel_rfl) (by kernel_rfl) (by kernel_rfl) (fun _ _ _ h => by cases h.1) (YG.val (by rfl) (fun _ _ => by go_simp)) ?_
    simp only [Act.put, List.setIfInBounds_toArray, List.set_cons_zero, List.set_cons_succ]
    refine wpX_take 6 (v := .slice xa xn xc) (oi := { dst := some 103, op := Op.load 22 (Operand.tmp 102), type := 22, pos := "law.go:166", after := #[{ on := 5, ground := Ground.data }], guard := none }) (oL := { dst := none, op := Op.store 24 (Operand.tmp 106) (Operand.tmp 105), type := 0, pos := "law.go:166", after := #[{ on := 9, ground := Ground.data }, { on := 8, ground := Ground.data }, { on := 8, ground := Ground.chain }, { on := 0, ground := Ground.phase }, { on := 1, ground := Ground.phase }, { on := 2, ground := Ground.phase }, { on := 3, ground := Ground.phase }, { on := 4, ground := Ground.phase }, { on := 5, ground := Ground.phase }, { on := 6, ground := Ground.phase }, { on := 7, ground := Ground.phase }, { on := 8, ground := Ground.phase }], guard := none }) (clo_app _ _ _ _ _ _ _) rfl rfl rfl (by kernel_rfl) (by kernel_rfl) (by kernel_rfl) (by kernel_rfl) (by kernel_rfl) (fun _ _ _ h => by cases h.1) (YG.val (by rfl) (fun u hu => by have c := HQC.out u (HC4.out.trans (hu.1.mono (fun _ h1 h2 => HWB.out _ h2)) (fun _ _ h => h)); go_simp)) ?_
    simp only [Act.put, List.setIfInBounds_toArray, List.set_cons_zero, List.set_cons_succ]
    refine wpX_step 7 (o := { dst := some 104, op := Op.buildSlice 24 1 #[(0, Operand.tmp 103)], type := 24, pos := "law.go:166", after := #[{ on := 6, ground := Ground.data }], guard := none }) rfl rfl (by kernel_rfl) (by rfl) (fun u2 hS2 K hK => ?_)
    have HKK := Lib.hid hK
    have HS2 := Lib.hid hS2
    clear hK hS2
    have ha2 := World.grownBy_alloc u2 (.cells #[.slice xa xn xc] 22) none
    refine wp_val_op (v := .slice (some ⟨u2.heap.size, 0, none⟩) 1 1) (w1 := u2.alloc (.cells #[.slice xa xn xc] 22)) (by go_simp) ?_
    have hrw2 : Row (u2.alloc (.cells #[.slice xa xn xc] 22)) u2.heap.size 22 #[.slice xa xn xc] := heap_alloc_new u2 _
    refine HKK.out (fun u => AppS W4 (bc + 1) 22 wa m wc (Lw.map Sl.val) u ∧ Row u u2.heap.size 22 #[.slice xa xn xc]) _ _ ⟨clo_app _ _ _ _ _ _ _ _ _ HS2.out ha2, hrw2⟩ (fun u h => h.1) (clo_and (clo_app _ _ _ _ _ _ _) (clo_row _ _ _)) ?_
    simp only [Act.put, List.setIfInBounds_toArray, List.set_cons_zero, List.set_cons_succ]
    clear ha2 hrw2
    have hu26 : W4.heap.size ≤ u2.heap.size := HS2.out.1.size
    refine wpX_step 8 (o := { dst := some 105, op := Op.call { callee := Callee.builtin Builtin.append, args := #[Operand.tmp 98, Operand.tmp 104], argTypes := #[24, 24] }, type := 24, pos := "law.go:166", after := #[{ on := 1, ground := Ground.data }, { on := 7, ground := Ground.data }], guard := none }) rfl rfl (by kernel_rfl) (by rfl) (fun u3 hS3 K3 hK3 => ?_)
    have HK3 := Lib.hid hK3
    have HS3 := Lib.hid hS3
    clear hK3 hS3
    have hnews : ∀ j u, ([.slice xa xn xc] : List Value)[j]? = some u → u3.cell? ((⟨u2.heap.size, 0, none⟩ : Addr).add j) = some u := by
      intro j u hu
      have h2 : ((⟨u2.heap.size, 0, none⟩ : Addr).add j) = ⟨u2.heap.size, j, none⟩ := by unfold Addr.add; split <;> simp_all
      rw [h2, Row.cell HS3.out.2]
      simpa using hu
    have hzb : (bc + 1) ≤ u3.heap.size := by
      have h1 := ZB4.out
      have h2 := HS3.out.1.1.size
      omega
    have hFn : ¬ In wa wc u2.heap.size := fun h => by
      have := (Own.inn OW4.out h).2
      omega
    obtain ⟨gW5, cW5, w8, hrun, hown8, hgr8⟩ := run_app (P := Try.prog) (ty := 24) u3 elS HS3.out.1.2 ⟨u2.heap.size, 0, none⟩ 1 1 [.slice xa xn xc] rfl hnews (by simp [Value.oneCell']) (by unfold maxLen; omega) (by omega) hzb (fun _ _ _ => trivial) (by omega)
    refine wp_val_op (v := .slice (some ⟨gW5, 0, none⟩) (m + 1) cW5) (w1 := w8) (run_app_op u3 w8 _ (.tmp 98) (.tmp 104) rfl _ hrun) ?_
    refine HK3.out (fun u => (AppS W4 (bc + 1) 22 wa m wc (Lw.map Sl.val) u ∧ Row u u2.heap.size 22 #[.slice xa xn xc]) ∧ w8.grownBy u none) _ _ ⟨⟨⟨HS3.out.1.1.trans hgr8.ch (fun _ _ h => h), own_behind HS3.out.1.2 hown8 hgr8⟩, Row.ch HS3.out.2 hgr8.ch hFn⟩, World.grownBy.refl _ _⟩ (fun u h => h.1) (clo_and (clo_and (clo_app _ _ _ _ _ _ _) (clo_row _ _ _)) (clo_grown _)) ?_
    simp only [Act.put, List.setIfInBounds_toArray, List.set_cons_zero, List.set_cons_succ]
    refine wpX_take 9 (v := .pointer (some ⟨bc, 1, none⟩)) (oi := { dst := some 106, op := Op.fieldAddr 33 (Operand.tmp 11) 1, type := 0, pos := "law.go:166", after := #[{ on := 0, ground := Ground.phase }, { on := 1, ground := Ground.phase }, { on := 2, ground := Ground.phase }, { on := 3, ground := Ground.phase }, { on := 4, ground := Ground.phase }, { on := 5, ground := Ground.phase }, { on := 6, ground := Ground.phase }, { on := 7, ground := Ground.phase }, { on := 8, ground := Ground.phase }], guard := none }) (oL := { dst := none, op := Op.store 24 (Operand.tmp 106) (Operand.tmp 105), type := 0, pos := "law.go:166", after := #[{ on := 9, ground := Ground.data }, { on := 8, ground := Ground.data }, { on := 8, ground := Ground.chain }, { on := 0, ground := Ground.phase }, { on := 1, ground := Ground.phase }, { on := 2, ground := Ground.phase }, { on := 3, ground := Ground.phase }, { on := 4, ground := Ground.phase }, { on := 5, ground := Ground.phase }, { on := 6, ground := Ground.phase }, { on := 7, ground := Ground.phase }, { on := 8, ground := Ground.phase }], guard := none }) (clo_and (clo_and (clo_app _ _ _ _ _ _ _) (clo_row _ _ _)) (clo_grown _)) rfl rfl rfl (by kernel_rfl) (by kernel_rfl) (by kernel_rfl) (by kernel_rfl) (by kernel_rfl) (fun _ _ _ h => by cases h.1) (YG.val (by rfl) (fun _ _ => by go_simp)) ?_
    simp only [Act.put, List.setIfInBounds_toArray, List.set_cons_zero, List.set_cons_succ]
    refine wpX_last (oL := { dst := none, op := Op.store 24 (Operand.tmp 106) (Operand.tmp 105), type := 0, pos := "law.go:166", after := #[{ on := 9, ground := Ground.data }, { on := 8, ground := Ground.data }, { on := 8, ground := Ground.chain }, { on := 0, ground := Ground.phase }, { on := 1, ground := Ground.phase }, { on := 2, ground := Ground.phase }, { on := 3, ground := Ground.phase }, { on := 4, ground := Ground.phase }, { on := 5, ground := Ground.phase }, { on := 6, ground := Ground.phase }, { on := 7, ground := Ground.phase }, { on := 8, ground := Ground.phase }], guard := none }) rfl (by kernel_rfl) (by kernel_rfl) (by rfl) (fun u4 hS4 K4 hK4 => ?_)
    have hrow4 := RC4.out.ch hS4.1.1.1 (row_in RC4.out OW4.out (by decide))
    have hc4 := Row.cell hrow4 1
    have hf4 := Row.frozen hrow4 1
    simp at hc4
    refine wp_skip_op (w1 := u4.setCell ⟨bc, 1, none⟩ (.slice (some ⟨gW5, 0, none⟩) (m + 1) cW5)) (by go_simp) (hK4 _ _ ?_)
    simp only [Act.put]
    obtain ⟨W5, hw9⟩ : ∃ W5, W5 = u4.setCell ⟨bc, 1, none⟩ (.slice (some ⟨gW5, 0, none⟩) (m + 1) cW5) := ⟨_, rfl⟩
    rw [← hw9]
    have hg9 : u4.grownBy W5 (some bc) := hw9 ▸ grownBy_setCell _ _ _ _
    have RW5 := Lib.hid (show Row W5 bc 33 #[.slice (some ⟨g3, 0, none⟩) (m + 1) cp3, .slice (some ⟨gW5, 0, none⟩) (m + 1) cW5] from hw9 ▸ Row.setc hrow4 1 _)
    have hown4 : Own u4 (bc + 1) 22 1 (some ⟨gW5, 0, none⟩) (m + 1) cW5 (Lw.map Sl.val ++ [.slice xa xn xc]) := Own.grownNone hown8 hS4.2
    have hnb := row_in hrow4 hown4 (by decide)
    have OW5 := Lib.hid (Own.ch hown4 (Ch.ofSome (S := fun x => x = bc) hg9 rfl) (fun h0 g e h => by subst h; exact hnb ⟨h0, e⟩))
    have CW5 := Lib.hid (show Ch (fun x => In wa wc x ∨ x = bc) W4 W5 from (hS4.1.1.1.mono (fun _ _ h => .inl h)).trans (Ch.ofSome (S := fun x => In wa wc x ∨ x = bc) hg9 (.inr rfl)) (fun _ _ h => h))
    have IW5 := Lib.hid (show ∀ x, In (some ⟨gW5, 0, none⟩) cW5 x → In wa wc x ∨ W4.heap.size ≤ x from fun x hx => (hgr8.inn hx).imp id (fun h => Nat.le_trans (show W4.heap.size ≤ u3.heap.size from HS3.out.1.1.size) h))
    clear HKK HS2 HK3 HS3 hnews hzb hFn hrun hown8 hgr8 hS4 hK4 hrow4 hc4 hf4 hw9 hg9 hown4 hnb hu26
    refine ⟨rfl, ?_⟩
    show Code.wpIn _ _ _ _ _ _ _
    clear hw5
    have n5 : ∀ y cs (T' : TypeId), Row W4 y T' cs → T' ≠ 22 → y ≠ bc → ¬ (In wa wc y ∨ y = bc) := fun y cs T' hr hT h h2 => h2.elim (row_in hr OW4.out hT) h
    have Q125 := Lib.hid (Q124.out.ch CW5.out (n5 _ _ _ Q124.out (by decide) (by omega)))
    have Q135 := Lib.hid (Q134.out.ch CW5.out (n5 _ _ _ Q134.out (by decide) (by omega)))
    have LG5 := Lib.hid (LG4.out.chS CW5.out (fun y hy h => by
        rcases h with h | rfl
        · exact DJ4.out y hy h
        · have := (Own.inn LG4.out.outer hy).1; omega) (fun i hi y hy h => by
        rcases h with h | rfl
        · exact byte_notin (LG4.out.inner i hi (by have := LG4.out.len; omega)) OW4.out y hy h
        · have := (LG4.out.inn hi hy).1; omega))
    have HC5 := Lib.hid (HC4.out.trans (CW5.out.mono (fun y _ h => h.elim (fun h => HWB.out _ h) (fun h => by omega))) (fun _ _ h => h))
    have DJ5 := Lib.hid (show ∀ y, In (some ⟨g3, 0, none⟩) cp3 y → In (some ⟨gW5, 0, none⟩) cW5 y → False from fun y h1 h2 => (IW5.out y h2).elim (fun h => DJ4.out y h1 h) (fun h => by have := (Own.inn LG4.out.outer h1).2; omega))
    have hTl : (T ++ [pb]).length = m + 1 := by rw [HM.out]; simp
    have CK5 : CkS bc (bc + 1) Lp (plB all) (T ++ [pb]) ⟨some ⟨g3, 0, none⟩, cp3, Lg ++ [⟨sa, sm, sc⟩], some ⟨gW5, 0, none⟩, cW5, Lw ++ [⟨xa, xn, xc⟩]⟩ W5 := by
      refine ⟨?_, ?_, ?_, HWOK.out.push np hLn hPn HSX.out HPE.out, DJ5.out⟩
      · show Row _ _ _ #[.slice _ (T ++ [pb]).length _, .slice _ (T ++ [pb]).length _]
        rw [hTl]; exact RW5.out
      · show LIs _ _ _ (T ++ [pb]).length _ _ _
        rw [hTl]; exact LG5.out
      · show Own _ _ _ _ _ (T ++ [pb]).length _ _
        rw [hTl, List.map_append]; exact OW5.out
    have HCK5 := Lib.hid CK5
    have HCT := Lib.hid (show Ch (fun y => y = bc ∨ In ga gc y ∨ In wa wc y ∨ y = b13) W W5 from (((Ch.ofNone GW1.out _).trans (C2.out.mono (fun _ _ h => by simp [h])) (fun _ _ h => h)).trans (C4.out.mono (fun _ _ h => by rcases h with h | h <;> simp [h])) (fun _ _ h => h)).trans (CW5.out.mono (fun _ _ h => by rcases h with h | h <;> simp [h])) (fun _ _ h => h))
    have HCELL := Lib.hid (show ∀ y, (y = bc ∨ In ga gc y ∨ In wa wc y ∨ y = b13) → ∃ cs t m, W.heap[y]? = some (.cells cs t m) from fun y hS => by
      rcases hS with rfl | h | h | rfl
      · exact ⟨_, _, _, RC.out⟩
      · exact Own.cellsAt LG.out.outer h
      · exact Own.cellsAt SW.out h
      · exact ⟨_, _, _, Q13.out⟩)
    have HLOW := Lib.hid (show ∀ y, (y = bc ∨ In ga gc y ∨ In wa wc y ∨ y = b13) → bc ≤ y from fun y hS => by
      rcases hS with rfl | h | h | rfl
      · exact Nat.le_refl _
      · exact HGB.out y h
      · exact HWB.out y h
      · omega)
    have HD5 := Lib.hid (show ∀ D ∈ ([] : List Nat), D < hi ∧ W5.heap[D]? = some (.deferred (some [])) from fun D hD => ⟨(HDD.out D hD).1, (HCT.out.block D (Array.getElem?_eq_some_iff.1 (HDD.out D hD).2).1 (fun hS => by
      obtain ⟨cs, t', m', h⟩ := HCELL.out D hS
      rw [(HDD.out D hD).2] at h
      cases h)).trans (HDD.out D hD).2⟩)
    have hlen : ((pre ++ [(⟨at_, ⟨sa, sm, sc⟩, pb⟩ : Pce)]).length : Int) = (np1 : Int) := by have := HNP.out; have := HNP1.out; simp; omega
    have happ : t ++ (pre ++ [(⟨at_, ⟨sa, sm, sc⟩, pb⟩ : Pce)]).map Pce.b = T ++ [pb] := by rw [HTT.out]; simp
    have HFIN := Lib.hid (show LwI w15 b12 b13 bc hi 0 [] Lp (plB all) t (pre ++ [(⟨at_, ⟨sa, sm, sc⟩, pb⟩ : Pce)]) W5 from ⟨_, Q125.out, by rw [hlen]; exact Q135.out, by rw [happ]; exact CK5, HC5.out, by have h1 := HCT.out.size; have h2 := HZ0.out; have h3 := HKZ.out; omega, HD5.out⟩)
    clear n5 hTl CK5 hlen happ
    have c12 := Row.cell Q125.out 0
    have c13 := Row.cell Q135.out 0
    have c5 := Row.cell (R5.out.ch HC5.out (by omega)) 0
    simp at c12 c13 c5
    gi_wp2
    exact ⟨KeepsFrom.ch HCT.out HCELL.out, KeptS.ch HCT.out (fun y hs hS => by have h1 := (HCKB.out y hs).2; have h2 := HLOW.out y hS; omega), HFIN.out⟩
  case stop0 =>
    rintro D cd pre W hD hS h hK
    exact h.elim
  case done0 =>
    rintro D0 xs W hD hS ⟨x, r12, r13, cs, hch, hz, hds⟩ hK
    have hxl : xs.length = k := by
      have h1 := congrArg List.length hS
      have h2 := HPK.out
      rw [← HALL.out, List.length_map] at h1
      rw [plB, List.length_map] at h2
      omega
    have hpl : xs.length ≤ 4000 := by omega
    clear hS
    have RR := Lib.hid r12
    have CS := Lib.hid cs
    have HC := Lib.hid hch
    have HKD := Lib.hid hK
    have HDS := Lib.hid hds
    have HLT0 := Lib.hid (show ∀ D' ∈ ([] : List Nat), D' < D0 from fun D' h => by have := (hds D' h).1; omega)
    have HDW0 := Lib.hid (show w15.heap.size ≤ D0 from by have := HCV.out.size; omega)
    have c12 := Row.cell r12 0
    have c13 := Row.cell r13 0
    have c8 := Row.cell (R8.out.ch hch (by omega)) 0
    simp at c12 c13 c8
    have HPL0 := Lib.hid hpl
    clear r12 r13 cs hch hK hds hpl hz hD
    rw [hxl] at c13
    have hkk : ((k : Int) != (k : Int)) = false := by simp
    go_wp2_with (first
      | (refine wpList_fresh1 rfl rfl rfl rfl rfl hii hiiz hiis rfl (.int .i64 0) rfl rfl rfl ?_; intro v2 hs g hr; have GV2 := Lib.hid g; have RV := Lib.hid (show Row v2 W.heap.size 3 #[.int .i64 0] from hr); have cv := Row.cell RV.out 0; simp at cv; clear hs g hr c12 c13 c8)
      | (refine wpList_put1 rfl rfl W.heap.size rfl (.int .i64 1) rfl RV.out (by kernel_rfl) rfl ?_; intro v3 hs g hr; have GV3 := Lib.hid g; have RV3 := Lib.hid (show Row v3 W.heap.size 3 #[.int .i64 1] from hr); clear hs g hr cv))
    clear hkk
    obtain ⟨b12, hb12⟩ : ∃ b12, b12 = W.heap.size := ⟨_, rfl⟩
    have q12 : bc < b12 := by rw [hb12]; exact CS.out.1.lt
    rw [← hb12] at RV RV3 GV3 ⊢
    clear hb12
    have CV3 : Ch (fun y => y = b12) v2 v3 := Ch.ofSome GV3.out rfl
    have cs2 := CS.out.nc (b0 := 0) GV2.out (fun r e => by cases e)
    replace CS := Lib.hid (cs2.ch CV3 (by omega) (fun y hy e => by omega) (row_in RV.out cs2.2.1.outer (by decide)) (row_in RV.out cs2.2.2.1 (by decide)) (fun i hi h => row_in RV.out (cs2.2.1.inner i hi (by have := cs2.2.1.len; omega)) (by decide) h))
    replace HC := Lib.hid ((HC.out.then GV2.out).trans (CV3.mono (fun y _ h => by omega)) (fun _ _ h => h))
    have hdn : ∀ D' : Nat, W.heap[D']? = some (.deferred (some [])) → v3.heap[D']? = some (.deferred (some [])) := fun D' h => by
      have h2 := dds1 h GV2.out
      exact (CV3.block D' (Array.getElem?_eq_some_iff.1 h2).1 (fun e => by
        subst e
        have h3 : v2.heap[D']? = _ := RV.out
        rw [h2] at h3
        cases h3)).trans h2
    have HDS' := Lib.hid (show ∀ D' ∈ ([D0] : List Nat), w15.heap.size ≤ D' ∧ v3.heap[D']? = some (.deferred (some [])) from fun D' h => by
      rcases List.mem_cons.1 h with rfl | h
      · exact ⟨HDW0.out, hdn _ HKD.out⟩
      · exact ⟨(HDO.out D' h), hdn _ (HDS.out D' h).2⟩)
    have RR := RV3
    have HDS := HDS'
    obtain ⟨t', ht'⟩ : ∃ t', t' = t ++ xs.map Pce.b := ⟨_, rfl⟩
    have htl : t'.length ≤ 8000 := by rw [ht', List.length_append, List.length_map]; have h1 := HTL.out; have h2 := HPL0.out; omega
    rw [← ht'] at CS
    obtain ⟨t, htt⟩ : ∃ t, t = t' := ⟨_, rfl⟩
    rw [← htt] at CS htl
    have HTL := Lib.hid htl
    clear htl ht' htt hdn CV3 cs2 GV2 GV3 RV HKD HDS'
    rw [rounds_succ]
    have c12 := Row.cell RR.out 0
    have c10 := Row.cell (R10.out.ch HC.out (by omega)) 0
    simp at c12 c10
    go_wp2_with (refine wpList_fresh1 rfl rfl rfl rfl rfl hii hiiz hiis rfl (.int .i64 0) rfl rfl rfl ?_; intro v1 hs g hr; have GV := Lib.hid g; have RN := Lib.hid (show Row v1 v3.heap.size 3 #[.int .i64 0] from hr); have c10' := Row.cell ((R10.out.ch HC.out (by omega)).grown g) 0; simp at c10'; clear hs g hr c10 c12)
    clear c10'
    obtain ⟨b13, hb13⟩ : ∃ b13, b13 = v3.heap.size := ⟨_, rfl⟩
    obtain ⟨hi, hhi⟩ : ∃ hi, hi = v1.heap.size := ⟨_, rfl⟩
    have q13 : b12 < b13 := by rw [hb13]; exact RR.out.lt
    rw [← hb13] at RN ⊢
    have qhi : b13 < hi := by rw [hhi]; exact RN.out.lt
    have HHI := Lib.hid hhi
    clear hb13 hhi
    replace RR := Lib.hid (RR.out.grown GV.out)
    replace HC := Lib.hid (HC.out.then GV.out)
    replace CS := Lib.hid (CS.out.nc (b0 := 0) GV.out (fun r e => by cases e))
    replace HDS := Lib.hid (show ∀ D ∈ ([D0] : List Nat), w15.heap.size ≤ D ∧ D < hi ∧ v1.heap[D]? = some (.deferred (some [])) from fun D hD => ⟨(HDS.out D hD).1, (by have h := dds1 (HDS.out D hD).2 GV.out; rw [HHI.out]; exact (Array.getElem?_eq_some_iff.1 h).1), dds1 (HDS.out D hD).2 GV.out⟩)
    have HCV := Lib.hid HC.out
    have HDO := Lib.hid (show ∀ D ∈ ([D0] : List Nat), w15.heap.size ≤ D from fun D hD => (HDS.out D hD).1)
    clear GV
    have hhi1 : hi ≤ v1.heap.size := by rw [HHI.out]; exact Nat.le_refl _
    have hhi2 : v1.heap.size ≤ hi := by rw [HHI.out]; exact Nat.le_refl _
    refine (wpIn_wide (n := 3)).1 ?_
    refine wpIn_rangeOkL (F := Fence.wide) (n := 3) rfl (by omega) (gf := 61) (lb := #[.pointer (some ⟨b1, 0, none⟩), .pointer (some ⟨b2, 0, none⟩)]) rfl trivial (enters_of Try.func61 (by kernel_rfl) rfl)
      (chunks1_in 2 _ b1 b2 z ao n co l v1 (HCK.out v1 HC.out) (by omega)) KeptS.trans (fun W l o o' hl _ _ _ => KeptS.put W l o' (fun hs => by have := (HCKB.out _ hs).2; omega))
      (fun pre x W0 W l o o' h hl ho => h.put l o' hl ho) (Below.refl _ _) (fun _ => rfl)
      (LwI w15 b12 b13 bc hi 1 [D0] Lp (plB all) t) (fun cd pre W => cd = .exit 2 ∧ LwI w15 b12 b13 bc hi 1 [D0] Lp (plB all) t pre W) (LwI.own (by omega) (by omega)) (fun cd _ _ _ _ hs hg hr => ⟨hs.1, LwI.own (by omega) (by omega) _ _ _ _ hs.2 hg hr⟩)
      ⟨x, RR.out, RN.out, by simpa using CS.out, HC.out, by omega, fun D hD => (HDS.out D hD).2⟩
      (fun T y => (((T.setIfInBounds 66 (.int .i64 (y.at_ : Int))).setIfInBounds 67 y.sl.val).setIfInBounds 14 (.int .i64 (y.at_ : Int))).setIfInBounds 15 y.sl.val) ?assign1 ?body1 ?done1 ?stop1
    case assign1 =>
      intro lp x W K hK
      simp only [Pce.vals]
      gi_wp2
      exact hK
    case body1 =>
      rintro lp pre ⟨at_, ⟨sa, sm, sc⟩, pb⟩ W0 W hlp hrec hI0 hI hkc hok
      obtain ⟨⟨ga, gc, Lg, wa, wc, Lw⟩, r12, r13, ⟨rc, lg0, sw0, wok, dj⟩, _, hz0, _⟩ := hI0
      obtain ⟨_, _, _, _, hchW, hzW, hdW⟩ := hI
      simp only at rc lg0 sw0 wok dj
      have rr := hok.at_
      rw [← HALL.out] at rr
      obtain ⟨rr, hrr⟩ := rr
      obtain ⟨np, hnp⟩ : ∃ np, np = pre.length := ⟨_, rfl⟩
      have hpk := HPK.out
      have hal : all.length = k := by rw [← hpk, plB, List.length_map]
      have hnk : np < k := by rw [← hal, ← hrr, hnp]; simp
      have hPn : np < (plB all).length := by rw [hpk]; exact hnk
      have hPe : pb = (plB all)[np] := by
        have h : (plB all)[np]? = some pb := by
          rw [plB, ← hrr, List.map_append, List.getElem?_append_right (by simp [hnp])]
          simp [hnp, Pce.pr]
        rw [List.getElem?_eq_getElem hPn] at h
        injection h with h
        exact h.symm
      have hat : (plN all).getD np 0 = (at_ : Int) := by
        rw [List.getD_eq_getElem?_getD, plN, ← hrr, List.map_append, List.getElem?_append_right (by simp [hnp])]
        simp [hnp, Pce.pr]
      have hat0 : np = 0 → at_ = 0 := fun h0 => by
        obtain rfl : pre = [] := List.eq_nil_of_length_eq_zero (by omega)
        have h1 : (all)[0]? = some (at_, pb) := by rw [← hrr]; rfl
        rw [HALL.out] at h1
        exact chL_first z l at_ pb h1
      have hown : BOwn W W0.heap.size sa sm sc pb := hok.own
      have hsm : pb.length = sm := BOwn.len hown
      have hpb4 : pb.length ≤ 4000 := by have := HPB.out pb (by rw [hPe]; exact List.getElem_mem _); omega
      obtain ⟨hl1, hl2, hl3⟩ := HLIE.out W hchW
      have hLn : np < Lp.length := by rw [hl2]; exact hPn
      obtain ⟨qb, qo, hqa, hq0⟩ := hl1 np (by rw [List.length_map]; exact hLn)
      clear hq0
      obtain ⟨⟨xa, xn, xc⟩, hs⟩ : ∃ s, s = Lp[np] := ⟨_, rfl⟩
      have hqc : ∀ u, Ch (fun y => bc ≤ y) w15 u → u.cell? ⟨qb, qo + np, none⟩ = some (.slice xa xn xc) := fun u hu => by
        obtain ⟨b', o', e, hc⟩ := (HLIE.out u hu).1 np (by rw [List.length_map]; exact hLn)
        rw [hqa] at e
        injection e with e; injection e with e1 e2
        subst e1; subst e2
        rw [hc, List.getElem_map, ← hs]
        rfl
      have HQC := Lib.hid hqc
      have hcq := hqc W hchW
      obtain ⟨hxl, hxn⟩ := hl3 np hLn hPn
      rw [← hs, ← hPe] at hxl hxn
      simp only at hxl hxn
      obtain ⟨ib2, io2, hpa, hpc⟩ := ints_cells (HINT.out W hchW) (by rw [plN, List.length_map, hal]; omega)
      have hcp := hpc np (by rw [plN, List.length_map, hal]; exact hnk)
      rw [hat] at hcp
      rw [← hnp] at r13
      obtain ⟨T, hT⟩ : ∃ T, T = t ++ pre.map Pce.b := ⟨_, rfl⟩
      obtain ⟨m, hm⟩ : ∃ m, m = T.length := ⟨_, rfl⟩
      rw [← hT] at rc lg0 sw0 wok
      rw [← hm] at rc lg0 sw0
      have hm4 : m ≤ 12100 := by rw [hm, hT, List.length_append, List.length_map, ← hnp]; have := HTL.out; omega
      have HSAME := Lib.hid (same_yes sa xa sc xc sm xn pb W hown.lies hxl hsm hxn.symm (by unfold maxLen; omega))
      have LG0 := Lib.hid lg0
      have LG := Lib.hid (lg0.keptC hkc)
      have SW := Lib.hid (show SOwn W (bc + 1) wa m wc Lw from Own.keptC sw0 hkc)
      have RC := Lib.hid (rc.keptC hkc)
      have Q12 := Lib.hid (r12.keptC hkc)
      have Q13 := Lib.hid (r13.keptC hkc)
      have HOWN := Lib.hid hown
      have HCW := Lib.hid hchW
      have HZ0 := Lib.hid hz0
      have HKZ := Lib.hid hkc.size
      have HDD := Lib.hid hdW
      have HWOK := Lib.hid wok
      have DJ := Lib.hid dj
      have HNP := Lib.hid hnp
      have HSX := Lib.hid hs
      have HPE := Lib.hid hPe
      have HTT := Lib.hid hT
      have HM := Lib.hid hm
      have HLP := Lib.hid hlp
      have HREC := Lib.hid hrec
      have HQA := Lib.hid hqa
      have HAT0 := Lib.hid hat0
      have c13 := Row.cell Q13.out 0
      have c8 := Row.cell (R8.out.ch hchW (by omega)) 0
      have c7 := Row.cell (R7.out.ch hchW (by omega)) 0
      simp at c13 c8 c7
      rw [hqa] at c8
      rw [hpa] at c7
      have hge : decide ((k : Int) ≤ (np : Int)) = false := decide_eq_false (by omega)
      have hge2 : decide (k ≤ np) = false := decide_eq_false (by omega)
      have hne : ((at_ : Int) != (at_ : Int)) = false := by simp
      clear hrr hok hown hl1 hl2 hl3 hqc hxl hpc lg0 sw0 rc r12 r13 hchW hz0 hkc wok dj hnp hs hPe hT hm hat hxn rr hqa hpa hal hpk hdW hlp hrec hzW hat0
      simp only [List.setIfInBounds_toArray, List.set_cons_zero, List.set_cons_succ, Sl.val]
      refine wpIn_block ?_
      refine wpIn_seq_k fun K1 hK1 => ?_
      have HK1 := Lib.hid hK1
      clear hK1
      gi_wp2_with ((with_reducible refine And.intro ?hh ?_); (case hh => exact trivial); gi_at_call 19; refine (calls_wide HSAME.out).mono ?_; rintro e W1 ⟨rfl, q5, hq5⟩; have GW1 := Lib.hid (show W.grownBy W1 none from hq5 ▸ grownBy_drewN _ _ _); clear hq5 q5)
      refine HK1.out _ _ ?_
      clear HK1 c13 c8 c7 hcp hcq hge hge2 hne
      have LG1 := Lib.hid (LG.out.grown GW1.out)
      have OWN1 := Lib.hid (BOwn.grown HOWN.out GW1.out)
      have SW1 := Lib.hid (show SOwn W1 (bc + 1) wa m wc Lw from Own.grownNone SW.out GW1.out)
      have RC1 := Lib.hid (RC.out.grown GW1.out)
      have Q121 := Lib.hid (Q12.out.grown GW1.out)
      have Q131 := Lib.hid (Q13.out.grown GW1.out)
      have HC1 := Lib.hid (HCW.out.then GW1.out)
      obtain ⟨np1, hnp1⟩ : ∃ np1, np1 = np + 1 := ⟨_, rfl⟩
      have hw1 : IntKind.i64.wrap ((np : Int) + 1) = (np1 : Int) := by rw [IntWalk.i64_in _ (by omega)]; omega
      have HNP1 := Lib.hid hnp1
      have c13 := Row.cell Q131.out 0
      simp at c13
      clear hnp1
      refine wpIn_seq ?_
      refine wpIn_regionP (by kernel_rfl) ?_
      go_wp2_with (refine wpList_put1 rfl rfl b13 rfl (.int .i64 (np1 : Int)) rfl Q131.out (by kernel_rfl) rfl ?_; intro W2 hs g hr; have Q132 := Lib.hid (show Row W2 b13 3 #[.int .i64 (np1 : Int)] from hr); have C2 := Lib.hid (Ch.ofSome (S := fun y => y = b13) g rfl); clear hs g hr)
      refine ⟨rfl, ?_⟩
      show Code.wpIn _ _ _ _ _ _ _
      clear c13 hw1
      have LG2 := Lib.hid (LG1.out.chS C2.out (fun y hy h => by subst h; exact row_in Q131.out LG1.out.outer (by decide) hy) (fun i hi y hy h => by subst h; exact row_in Q131.out (LG1.out.inner i hi (by have := LG1.out.len; omega)) (by decide) hy))
      have OWN2 := Lib.hid (show BOwn W2 W0.heap.size sa sm sc pb from Own.ch OWN1.out C2.out (fun h0 y e h => by subst h; exact row_in Q131.out OWN1.out (by decide) ⟨h0, e⟩))
      have SW2 := Lib.hid (show SOwn W2 (bc + 1) wa m wc Lw from Own.ch SW1.out C2.out (fun h0 y e h => by subst h; exact row_in Q131.out SW1.out (by decide) ⟨h0, e⟩))
      have RC2 := Lib.hid (RC1.out.ch C2.out (by omega))
      have Q122 := Lib.hid (Q121.out.ch C2.out (by omega))
      have HC2 := Lib.hid (HC1.out.trans (C2.out.mono (fun y _ h => by omega)) (fun _ _ h => h))
      have OG2 := Lib.hid (show Own W2 (bc + 1) 22 1 ga m gc (Lg.map Sl.val) from LG2.out.outer)
      have ZB2 := Lib.hid (show bc + 1 ≤ W2.heap.size from RC2.out.lt)
      have cg := Row.cell RC2.out 0
      simp at cg
      refine wpIn_seq ?_
      refine wpIn_regionP (by kernel_rfl) ?_
      go_wp2_with (first
        | ((with_reducible show wpList _ _ _ ({ dst := some 95, op := _, type := _, pos := _, after := _, guard := _ } :: _) _ _); refine wpList_push elS rfl (.tmp 92) (.tmp 94) rfl rfl OG2.out (.slice sa sm sc) rfl rfl (by unfold maxLen; omega) (by omega) ZB2.out ?_; intro g3 cp3 W3 hown hgr; have O3 := Lib.hid hown; have GR3 := Lib.hid hgr; have RC3 := Lib.hid (RC2.out.ch hgr.ch (row_in RC2.out OG2.out (by decide))); have cg3 := Row.cell RC3.out 0; have fg3 := Row.frozen RC3.out 0; simp at cg3; clear hown hgr cg)
        | ((with_reducible show wpList _ _ _ ({ dst := none, op := _, type := _, pos := _, after := _, guard := _ } :: _) _ _); refine wpList_skipC rfl (w1 := W3.setCell ⟨bc, 0, none⟩ (.slice (some ⟨g3, 0, none⟩) (m + 1) cp3)) (by go_simp) ?_))
      obtain ⟨W4, hW4⟩ : ∃ W4, W4 = W3.setCell ⟨bc, 0, none⟩ (.slice (some ⟨g3, 0, none⟩) (m + 1) cp3) := ⟨_, rfl⟩
      rw [← hW4]
      have hg4 : W3.grownBy W4 (some bc) := hW4 ▸ grownBy_setCell _ _ _ _
      have RC4 := Lib.hid (show Row W4 bc 33 #[.slice (some ⟨g3, 0, none⟩) (m + 1) cp3, .slice wa m wc] from hW4 ▸ Row.setc RC3.out 0 _)
      refine ⟨rfl, ?_⟩
      show Code.wpIn _ _ _ _ _ _ _
      have hb3 := row_in RC3.out O3.out (by decide)
      have O4 := Lib.hid (Own.ch O3.out (Ch.ofSome (S := fun y => y = bc) hg4 rfl) (fun h0 y e h => by subst h; exact hb3 ⟨h0, e⟩))
      have C4 := Lib.hid (show Ch (fun y => In ga gc y ∨ y = bc) W2 W4 from (GR3.out.ch.mono (fun _ _ h => .inl h)).trans (Ch.ofSome (S := fun y => In ga gc y ∨ y = bc) hg4 (.inr rfl)) (fun _ _ h => h))
      have I4 := Lib.hid (show ∀ y, In (some ⟨g3, 0, none⟩) cp3 y → In ga gc y ∨ W2.heap.size ≤ y from fun y hy => GR3.out.inn hy)
      clear cg3 fg3 hW4 hg4 hb3 RC3
      have n4 : ∀ y cs (T' : TypeId), Row W2 y T' cs → T' ≠ 22 → y ≠ bc → ¬ (In ga gc y ∨ y = bc) := fun y cs T' hr hT h h2 => h2.elim (row_in hr OG2.out hT) h
      have Q124 := Lib.hid (Q122.out.ch C4.out (n4 _ _ _ Q122.out (by decide) (by omega)))
      have Q134 := Lib.hid (Q132.out.ch C4.out (n4 _ _ _ Q132.out (by decide) (by omega)))
      have LG4 := Lib.hid (LIs.pushR LG0.out (by have := HZ0.out; omega) LG2.out OWN2.out (by omega) C4.out O4.out)
      have SW4 := Lib.hid (show SOwn W4 (bc + 1) wa m wc Lw from Own.ch SW2.out C4.out (fun h0 y e h => by
        rcases h with h | rfl
        · exact DJ.out y h ⟨h0, e⟩
        · have := (Own.inn SW2.out (g := y) ⟨h0, e⟩).1; omega))
      have HGB := Lib.hid (show ∀ y, In ga gc y → bc ≤ y from fun y h => by have := (Own.inn OG2.out h).1; omega)
      have HWB := Lib.hid (show ∀ y, In wa wc y → bc ≤ y from fun y h => by have := (Own.inn SW2.out h).1; omega)
      have HC4 := Lib.hid (HC2.out.trans (C4.out.mono (fun y _ h => h.elim (fun h => HGB.out _ h) (fun h => by omega))) (fun _ _ h => h))
      have ZB4 := Lib.hid (show bc + 1 ≤ W4.heap.size from RC4.out.lt)
      have DJ4 := Lib.hid (show ∀ y, In (some ⟨g3, 0, none⟩) cp3 y → In wa wc y → False from fun y h1 h2 => (I4.out y h1).elim (fun h => DJ.out y h h2) (fun h => by have := (Own.inn SW2.out h2).2; omega))
      have OW4 := Lib.hid (show Own W4 (bc + 1) 22 1 wa m wc (Lw.map Sl.val) from SW4.out)
      have R84 := Lib.hid (show Row W4 b8 24 #[.slice (some ⟨qb, qo, none⟩) k qc] from HQA.out ▸ R8.out.ch HC4.out (by omega))
      have hw5 : IntKind.i64.wrap ((np1 : Int) - 1) = (np : Int) := by have := HNP1.out; rw [IntWalk.i64_in _ (by omega)]; omega
      clear n4
      refine wpIn_seq ?_
      refine wpIn_regionX (AppS W4 (bc + 1) 22 wa m wc (Lw.map Sl.val)) 10 (by kernel_rfl) (by kernel_rfl) ⟨Ch.ofNone (grownBy_drewN W4 1 none) _, Own.grownNone OW4.out (grownBy_drewN W4 1 none)⟩ ?_
      refine wpX_take 0 (v := .pointer (some ⟨bc, 1, none⟩)) (oi := { dst := some 97, op := Op.fieldAddr 33 (Operand.tmp 11) 1, type := 0, pos := "law.go:166", after := #[], guard := none }) (oL := { dst := none, op := Op.store 24 (Operand.tmp 106) (Operand.tmp 105), type := 0, pos := "law.go:166", after := #[{ on := 9, ground := Ground.data }, { on := 8, ground := Ground.data }, { on := 8, ground := Ground.chain }, { on := 0, ground := Ground.phase }, { on := 1, ground := Ground.phase }, { on := 2, ground := Ground.phase }, { on := 3, ground := Ground.phase }, { on := 4, ground := Ground.phase }, { on := 5, ground := Ground.phase }, { on := 6, ground := Ground.phase }, { on := 7, ground := Ground.phase }, { on := 8, ground := Ground.phase }], guard := none }) (clo_app _ _ _ _ _ _ _) rfl rfl rfl (by kernel_rfl) (by kernel_rfl) (by kernel_rfl) (by kernel_rfl) (by kernel_rfl) (fun _ _ _ h => by cases h.1) (YG.val (by rfl) (fun _ _ => by go_simp)) ?_
      simp only [Act.put, List.setIfInBounds_toArray, List.set_cons_zero, List.set_cons_succ]
      refine wpX_take 1 (v := .slice wa m wc) (oi := { dst := some 98, op := Op.load 24 (Operand.tmp 97), type := 24, pos := "law.go:166", after := #[{ on := 0, ground := Ground.data }], guard := none }) (oL := { dst := none, op := Op.store 24 (Operand.tmp 106) (Operand.tmp 105), type := 0, pos := "law.go:166", after := #[{ on := 9, ground := Ground.data }, { on := 8, ground := Ground.data }, { on := 8, ground := Ground.chain }, { on := 0, ground := Ground.phase }, { on := 1, ground := Ground.phase }, { on := 2, ground := Ground.phase }, { on := 3, ground := Ground.phase }, { on := 4, ground := Ground.phase }, { on := 5, ground := Ground.phase }, { on := 6, ground := Ground.phase }, { on := 7, ground := Ground.phase }, { on := 8, ground := Ground.phase }], guard := none }) (clo_app _ _ _ _ _ _ _) rfl rfl rfl (by kernel_rfl) (by kernel_rfl) (by kernel_rfl) (by kernel_rfl) (by kernel_rfl) (fun _ _ _ h => by cases h.1) (YG.val (by rfl) (fun u hu => by have c := Row.cell (RC4.out.ch hu.1 (row_in RC4.out OW4.out (by decide))) 1; simp at c; go_simp)) ?_
      simp only [Act.put, List.setIfInBounds_toArray, List.set_cons_zero, List.set_cons_succ]
      refine wpX_take 2 (v := .slice (some ⟨qb, qo, none⟩) k qc) (oi := { dst := some 99, op := Op.load 24 (Operand.tmp 8), type := 24, pos := "law.go:166", after := #[], guard := none }) (oL := { dst := none, op := Op.store 24 (Operand.tmp 106) (Operand.tmp 105), type := 0, pos := "law.go:166", after := #[{ on := 9, ground := Ground.data }, { on := 8, ground := Ground.data }, { on := 8, ground := Ground.chain }, { on := 0, ground := Ground.phase }, { on := 1, ground := Ground.phase }, { on := 2, ground := Ground.phase }, { on := 3, ground := Ground.phase }, { on := 4, ground := Ground.phase }, { on := 5, ground := Ground.phase }, { on := 6, ground := Ground.phase }, { on := 7, ground := Ground.phase }, { on := 8, ground := Ground.phase }], guard := none }) (clo_app _ _ _ _ _ _ _) rfl rfl rfl (by kernel_rfl) (by kernel_rfl) (by kernel_rfl) (by kernel_rfl) (by kernel_rfl) (fun _ _ _ h => by cases h.1) (YG.val (by rfl) (fun u hu => by have c := Row.cell (R84.out.ch hu.1 (row_in R84.out OW4.out (by decide))) 0; simp at c; go_simp)) ?_
      simp only [Act.put, List.setIfInBounds_toArray, List.set_cons_zero, List.set_cons_succ]
      refine wpX_take 3 (v := .int .i64 (np1 : Int)) (oi := { dst := some 100, op := Op.load 3 (Operand.tmp 13), type := 3, pos := "law.go:166", after := #[], guard := none }) (oL := { dst := none, op := Op.store 24 (Operand.tmp 106) (Operand.tmp 105), type := 0, pos := "law.go:166", after := #[{ on := 9, ground := Ground.data }, { on := 8, ground := Ground.data }, { on := 8, ground := Ground.chain }, { on := 0, ground := Ground.phase }, { on := 1, ground := Ground.phase }, { on := 2, ground := Ground.phase }, { on := 3, ground := Ground.phase }, { on := 4, ground := Ground.phase }, { on := 5, ground := Ground.phase }, { on := 6, ground := Ground.phase }, { on := 7, ground := Ground.phase }, { on := 8, ground := Ground.phase }], guard := none }) (clo_app _ _ _ _ _ _ _) rfl rfl rfl (by kernel_rfl) (by kernel_rfl) (by kernel_rfl) (by kernel_rfl) (by kernel_rfl) (fun _ _ _ h => by cases h.1) (YG.val (by rfl) (fun u hu => by have c := Row.cell (Q134.out.ch hu.1 (row_in Q134.out OW4.out (by decide))) 0; simp at c; go_simp)) ?_
      simp only [Act.put, List.setIfInBounds_toArray, List.set_cons_zero, List.set_cons_succ]
      refine wpX_take 4 (v := .int .i64 (np : Int)) (oi := { dst := some 101, op := Op.binOp BinOp.sub 3 (Operand.tmp 100) (Operand.const (Value.int IntKind.i64 1)) 3, type := 3, pos := "law.go:166", after := #[{ on := 3, ground := Ground.data }], guard := none }) (oL := { dst := none, op := Op.store 24 (Operand.tmp 106) (Operand.tmp 105), type := 0, pos := "law.go:166", after := #[{ on := 9, ground := Ground.data }, { on := 8, ground := Ground.data }, { on := 8, ground := Ground.chain }, { on := 0, ground := Ground.phase }, { on := 1, ground := Ground.phase }, { on := 2, ground := Ground.phase }, { on := 3, ground := Ground.phase }, { on := 4, ground := Ground.phase }, { on := 5, ground := Ground.phase }, { on := 6, ground := Ground.phase }, { on := 7, ground := Ground.phase }, { on := 8, ground := Ground.phase }], guard := none }) (clo_app _ _ _ _ _ _ _) rfl rfl rfl (by kernel_rfl) (by kernel_rfl) (by kernel_rfl) (by kernel_rfl) (by kernel_rfl) (fun _ _ _ h => by cases h.1) (YG.val (by rfl) (fun _ _ => by go_simp)) ?_
      simp only [Act.put, List.setIfInBounds_toArray, List.set_cons_zero, List.set_cons_succ]
      refine wpX_take 5 (v := .pointer (some ⟨qb, qo + np, none⟩)) (oi := { dst := some 102, op := Op.indexAddr 24 (Operand.tmp 99) (Operand.tmp 101), type := 0, pos := "law.go:166", after := #[{ on := 2, ground := Ground.data }, { on := 4, ground := Ground.data }], guard := none }) (oL := { dst := none, op := Op.store 24 (Operand.tmp 106) (Operand.tmp 105), type := 0, pos := "law.go:166", after := #[{ on := 9, ground := Ground.data }, { on := 8, ground := Ground.data }, { on := 8, ground := Ground.chain }, { on := 0, ground := Ground.phase }, { on := 1, ground := Ground.phase }, { on := 2, ground := Ground.phase }, { on := 3, ground := Ground.phase }, { on := 4, ground := Ground.phase }, { on := 5, ground := Ground.phase }, { on := 6, ground := Ground.phase }, { on := 7, ground := Ground.phase }, { on := 8, ground := Ground.phase }], guard := none }) (clo_app _ _ _ _ _ _ _) rfl rfl rfl (by kernel_rfl) (by kernel_rfl) (by kernel_rfl) (by kernel_rfl) (by kernel_rfl) (fun _ _ _ h => by cases h.1) (YG.val (by rfl) (fun _ _ => by go_simp)) ?_
      simp only [Act.put, List.setIfInBounds_toArray, List.set_cons_zero, List.set_cons_succ]
      refine wpX_take 6 (v := .slice xa xn xc) (oi := { dst := some 103, op := Op.load 22 (Operand.tmp 102), type := 22, pos := "law.go:166", after := #[{ on := 5, ground := Ground.data }], guard := none }) (oL := { dst := none, op := Op.store 24 (Operand.tmp 106) (Operand.tmp 105), type := 0, pos := "law.go:166", after := #[{ on := 9, ground := Ground.data }, { on := 8, ground := Ground.data }, { on := 8, ground := Ground.chain }, { on := 0, ground := Ground.phase }, { on := 1, ground := Ground.phase }, { on := 2, ground := Ground.phase }, { on := 3, ground := Ground.phase }, { on := 4, ground := Ground.phase }, { on := 5, ground := Ground.phase }, { on := 6, ground := Ground.phase }, { on := 7, ground := Ground.phase }, { on := 8, ground := Ground.phase }], guard := none }) (clo_app _ _ _ _ _ _ _) rfl rfl rfl (by kernel_rfl) (by kernel_rfl) (by kernel_rfl) (by kernel_rfl) (by kernel_rfl) (fun _ _ _ h => by cases h.1) (YG.val (by rfl) (fun u hu => by have c := HQC.out u (HC4.out.trans (hu.1.mono (fun _ h1 h2 => HWB.out _ h2)) (fun _ _ h => h)); go_simp)) ?_
      simp only [Act.put, List.setIfInBounds_toArray, List.set_cons_zero, List.set_cons_succ]
      refine wpX_step 7 (o := { dst := some 104, op := Op.buildSlice 24 1 #[(0, Operand.tmp 103)], type := 24, pos := "law.go:166", after := #[{ on := 6, ground := Ground.data }], guard := none }) rfl rfl (by kernel_rfl) (by rfl) (fun u2 hS2 K hK => ?_)
      have HKK := Lib.hid hK
      have HS2 := Lib.hid hS2
      clear hK hS2
      have ha2 := World.grownBy_alloc u2 (.cells #[.slice xa xn xc] 22) none
      refine wp_val_op (v := .slice (some ⟨u2.heap.size, 0, none⟩) 1 1) (w1 := u2.alloc (.cells #[.slice xa xn xc] 22)) (by go_simp) ?_
      have hrw2 : Row (u2.alloc (.cells #[.slice xa xn xc] 22)) u2.heap.size 22 #[.slice xa xn xc] := heap_alloc_new u2 _
      refine HKK.out (fun u => AppS W4 (bc + 1) 22 wa m wc (Lw.map Sl.val) u ∧ Row u u2.heap.size 22 #[.slice xa xn xc]) _ _ ⟨clo_app _ _ _ _ _ _ _ _ _ HS2.out ha2, hrw2⟩ (fun u h => h.1) (clo_and (clo_app _ _ _ _ _ _ _) (clo_row _ _ _)) ?_
      simp only [Act.put, List.setIfInBounds_toArray, List.set_cons_zero, List.set_cons_succ]
      clear ha2 hrw2
      have hu26 : W4.heap.size ≤ u2.heap.size := HS2.out.1.size
      refine wpX_step 8 (o := { dst := some 105, op := Op.call { callee := Callee.builtin Builtin.append, args := #[Operand.tmp 98, Operand.tmp 104], argTypes := #[24, 24] }, type := 24, pos := "law.go:166", after := #[{ on := 1, ground := Ground.data }, { on := 7, ground := Ground.data }], guard := none }) rfl rfl (by kernel_rfl) (by rfl) (fun u3 hS3 K3 hK3 => ?_)
      have HK3 := Lib.hid hK3
      have HS3 := Lib.hid hS3
      clear hK3 hS3
      have hnews : ∀ j u, ([.slice xa xn xc] : List Value)[j]? = some u → u3.cell? ((⟨u2.heap.size, 0, none⟩ : Addr).add j) = some u := by
        intro j u hu
        have h2 : ((⟨u2.heap.size, 0, none⟩ : Addr).add j) = ⟨u2.heap.size, j, none⟩ := by unfold Addr.add; split <;> simp_all
        rw [h2, Row.cell HS3.out.2]
        simpa using hu
      have hzb : (bc + 1) ≤ u3.heap.size := by
        have h1 := ZB4.out
        have h2 := HS3.out.1.1.size
        omega
      have hFn : ¬ In wa wc u2.heap.size := fun h => by
        have := (Own.inn OW4.out h).2
        omega
      obtain ⟨gW5, cW5, w8, hrun, hown8, hgr8⟩ := run_app (P := Try.prog) (ty := 24) u3 elS HS3.out.1.2 ⟨u2.heap.size, 0, none⟩ 1 1 [.slice xa xn xc] rfl hnews (by simp [Value.oneCell']) (by unfold maxLen; omega) (by omega) hzb (fun _ _ _ => trivial) (by omega)
      refine wp_val_op (v := .slice (some ⟨gW5, 0, none⟩) (m + 1) cW5) (w1 := w8) (run_app_op u3 w8 _ (.tmp 98) (.tmp 104) rfl _ hrun) ?_
      refine HK3.out (fun u => (AppS W4 (bc + 1) 22 wa m wc (Lw.map Sl.val) u ∧ Row u u2.heap.size 22 #[.slice xa xn xc]) ∧ w8.grownBy u none) _ _ ⟨⟨⟨HS3.out.1.1.trans hgr8.ch (fun _ _ h => h), own_behind HS3.out.1.2 hown8 hgr8⟩, Row.ch HS3.out.2 hgr8.ch hFn⟩, World.grownBy.refl _ _⟩ (fun u h => h.1) (clo_and (clo_and (clo_app _ _ _ _ _ _ _) (clo_row _ _ _)) (clo_grown _)) ?_
      simp only [Act.put, List.setIfInBounds_toArray, List.set_cons_zero, List.set_cons_succ]
      refine wpX_take 9 (v := .pointer (some ⟨bc, 1, none⟩)) (oi := { dst := some 106, op := Op.fieldAddr 33 (Operand.tmp 11) 1, type := 0, pos := "law.go:166", after := #[{ on := 0, ground := Ground.phase }, { on := 1, ground := Ground.phase }, { on := 2, ground := Ground.phase }, { on := 3, ground := Ground.phase }, { on := 4, ground := Ground.phase }, { on := 5, ground := Ground.phase }, { on := 6, ground := Ground.phase }, { on := 7, ground := Ground.phase }, { on := 8, ground := Ground.phase }], guard := none }) (oL := { dst := none, op := Op.store 24 (Operand.tmp 106) (Operand.tmp 105), type := 0, pos := "law.go:166", after := #[{ on := 9, ground := Ground.data }, { on := 8, ground := Ground.data }, { on := 8, ground := Ground.chain }, { on := 0, ground := Ground.phase }, { on := 1, ground := Ground.phase }, { on := 2, ground := Ground.phase }, { on := 3, ground := Ground.phase }, { on := 4, ground := Ground.phase }, { on := 5, ground := Ground.phase }, { on := 6, ground := Ground.phase }, { on := 7, ground := Ground.phase }, { on := 8, ground := Ground.phase }], guard := none }) (clo_and (clo_and (clo_app _ _ _ _ _ _ _) (clo_row _ _ _)) (clo_grown _)) rfl rfl rfl (by kernel_rfl) (by kernel_rfl) (by kernel_rfl) (by kernel_rfl) (by kernel_rfl) (fun _ _ _ h => by cases h.1) (YG.val (by rfl) (fun _ _ => by go_simp)) ?_
      simp only [Act.put, List.setIfInBounds_toArray, List.set_cons_zero, List.set_cons_succ]
      refine wpX_last (oL := { dst := none, op := Op.store 24 (Operand.tmp 106) (Operand.tmp 105), type := 0, pos := "law.go:166", after := #[{ on := 9, ground := Ground.data }, { on := 8, ground := Ground.data }, { on := 8, ground := Ground.chain }, { on := 0, ground := Ground.phase }, { on := 1, ground := Ground.phase }, { on := 2, ground := Ground.phase }, { on := 3, ground := Ground.phase }, { on := 4, ground := Ground.phase }, { on := 5, ground := Ground.phase }, { on := 6, ground := Ground.phase }, { on := 7, ground := Ground.phase }, { on := 8, ground := Ground.phase }], guard := none }) rfl (by kernel_rfl) (by kernel_rfl) (by rfl) (fun u4 hS4 K4 hK4 => ?_)
      have hrow4 := RC4.out.ch hS4.1.1.1 (row_in RC4.out OW4.out (by decide))
      have hc4 := Row.cell hrow4 1
      have hf4 := Row.frozen hrow4 1
      simp at hc4
      refine wp_skip_op (w1 := u4.setCell ⟨bc, 1, none⟩ (.slice (some ⟨gW5, 0, none⟩) (m + 1) cW5)) (by go_simp) (hK4 _ _ ?_)
      simp only [Act.put]
      obtain ⟨W5, hw9⟩ : ∃ W5, W5 = u4.setCell ⟨bc, 1, none⟩ (.slice (some ⟨gW5, 0, none⟩) (m + 1) cW5) := ⟨_, rfl⟩
      rw [← hw9]
      have hg9 : u4.grownBy W5 (some bc) := hw9 ▸ grownBy_setCell _ _ _ _
      have RW5 := Lib.hid (show Row W5 bc 33 #[.slice (some ⟨g3, 0, none⟩) (m + 1) cp3, .slice (some ⟨gW5, 0, none⟩) (m + 1) cW5] from hw9 ▸ Row.setc hrow4 1 _)
      have hown4 : Own u4 (bc + 1) 22 1 (some ⟨gW5, 0, none⟩) (m + 1) cW5 (Lw.map Sl.val ++ [.slice xa xn xc]) := Own.grownNone hown8 hS4.2
      have hnb := row_in hrow4 hown4 (by decide)
      have OW5 := Lib.hid (Own.ch hown4 (Ch.ofSome (S := fun x => x = bc) hg9 rfl) (fun h0 g e h => by subst h; exact hnb ⟨h0, e⟩))
      have CW5 := Lib.hid (show Ch (fun x => In wa wc x ∨ x = bc) W4 W5 from (hS4.1.1.1.mono (fun _ _ h => .inl h)).trans (Ch.ofSome (S := fun x => In wa wc x ∨ x = bc) hg9 (.inr rfl)) (fun _ _ h => h))
      have IW5 := Lib.hid (show ∀ x, In (some ⟨gW5, 0, none⟩) cW5 x → In wa wc x ∨ W4.heap.size ≤ x from fun x hx => (hgr8.inn hx).imp id (fun h => Nat.le_trans (show W4.heap.size ≤ u3.heap.size from HS3.out.1.1.size) h))
      clear HKK HS2 HK3 HS3 hnews hzb hFn hrun hown8 hgr8 hS4 hK4 hrow4 hc4 hf4 hw9 hg9 hown4 hnb hu26
      refine ⟨rfl, ?_⟩
      show Code.wpIn _ _ _ _ _ _ _
      clear hw5
      have n5 : ∀ y cs (T' : TypeId), Row W4 y T' cs → T' ≠ 22 → y ≠ bc → ¬ (In wa wc y ∨ y = bc) := fun y cs T' hr hT h h2 => h2.elim (row_in hr OW4.out hT) h
      have Q125 := Lib.hid (Q124.out.ch CW5.out (n5 _ _ _ Q124.out (by decide) (by omega)))
      have Q135 := Lib.hid (Q134.out.ch CW5.out (n5 _ _ _ Q134.out (by decide) (by omega)))
      have LG5 := Lib.hid (LG4.out.chS CW5.out (fun y hy h => by
          rcases h with h | rfl
          · exact DJ4.out y hy h
          · have := (Own.inn LG4.out.outer hy).1; omega) (fun i hi y hy h => by
          rcases h with h | rfl
          · exact byte_notin (LG4.out.inner i hi (by have := LG4.out.len; omega)) OW4.out y hy h
          · have := (LG4.out.inn hi hy).1; omega))
      have HC5 := Lib.hid (HC4.out.trans (CW5.out.mono (fun y _ h => h.elim (fun h => HWB.out _ h) (fun h => by omega))) (fun _ _ h => h))
      have DJ5 := Lib.hid (show ∀ y, In (some ⟨g3, 0, none⟩) cp3 y → In (some ⟨gW5, 0, none⟩) cW5 y → False from fun y h1 h2 => (IW5.out y h2).elim (fun h => DJ4.out y h1 h) (fun h => by have := (Own.inn LG4.out.outer h1).2; omega))
      have hTl : (T ++ [pb]).length = m + 1 := by rw [HM.out]; simp
      have CK5 : CkS bc (bc + 1) Lp (plB all) (T ++ [pb]) ⟨some ⟨g3, 0, none⟩, cp3, Lg ++ [⟨sa, sm, sc⟩], some ⟨gW5, 0, none⟩, cW5, Lw ++ [⟨xa, xn, xc⟩]⟩ W5 := by
        refine ⟨?_, ?_, ?_, HWOK.out.push np hLn hPn HSX.out HPE.out, DJ5.out⟩
        · show Row _ _ _ #[.slice _ (T ++ [pb]).length _, .slice _ (T ++ [pb]).length _]
          rw [hTl]; exact RW5.out
        · show LIs _ _ _ (T ++ [pb]).length _ _ _
          rw [hTl]; exact LG5.out
        · show Own _ _ _ _ _ (T ++ [pb]).length _ _
          rw [hTl, List.map_append]; exact OW5.out
      have HCK5 := Lib.hid CK5
      have HCT := Lib.hid (show Ch (fun y => y = bc ∨ In ga gc y ∨ In wa wc y ∨ y = b13) W W5 from (((Ch.ofNone GW1.out _).trans (C2.out.mono (fun _ _ h => by simp [h])) (fun _ _ h => h)).trans (C4.out.mono (fun _ _ h => by rcases h with h | h <;> simp [h])) (fun _ _ h => h)).trans (CW5.out.mono (fun _ _ h => by rcases h with h | h <;> simp [h])) (fun _ _ h => h))
      have HCELL := Lib.hid (show ∀ y, (y = bc ∨ In ga gc y ∨ In wa wc y ∨ y = b13) → ∃ cs t m, W.heap[y]? = some (.cells cs t m) from fun y hS => by
        rcases hS with rfl | h | h | rfl
        · exact ⟨_, _, _, RC.out⟩
        · exact Own.cellsAt LG.out.outer h
        · exact Own.cellsAt SW.out h
        · exact ⟨_, _, _, Q13.out⟩)
      have HLOW := Lib.hid (show ∀ y, (y = bc ∨ In ga gc y ∨ In wa wc y ∨ y = b13) → bc ≤ y from fun y hS => by
        rcases hS with rfl | h | h | rfl
        · exact Nat.le_refl _
        · exact HGB.out y h
        · exact HWB.out y h
        · omega)
      have HD5 := Lib.hid (show ∀ D ∈ ([D0] : List Nat), D < hi ∧ W5.heap[D]? = some (.deferred (some [])) from fun D hD => ⟨(HDD.out D hD).1, (HCT.out.block D (Array.getElem?_eq_some_iff.1 (HDD.out D hD).2).1 (fun hS => by
        obtain ⟨cs, t', m', h⟩ := HCELL.out D hS
        rw [(HDD.out D hD).2] at h
        cases h)).trans (HDD.out D hD).2⟩)
      have hlen : ((pre ++ [(⟨at_, ⟨sa, sm, sc⟩, pb⟩ : Pce)]).length : Int) = (np1 : Int) := by have := HNP.out; have := HNP1.out; simp; omega
      have happ : t ++ (pre ++ [(⟨at_, ⟨sa, sm, sc⟩, pb⟩ : Pce)]).map Pce.b = T ++ [pb] := by rw [HTT.out]; simp
      have HFIN := Lib.hid (show LwI w15 b12 b13 bc hi 1 [D0] Lp (plB all) t (pre ++ [(⟨at_, ⟨sa, sm, sc⟩, pb⟩ : Pce)]) W5 from ⟨_, Q125.out, by rw [hlen]; exact Q135.out, by rw [happ]; exact CK5, HC5.out, by have h1 := HCT.out.size; have h2 := HZ0.out; have h3 := HKZ.out; omega, HD5.out⟩)
      clear n5 hTl CK5 hlen happ
      have c12 := Row.cell Q125.out 0
      have c13 := Row.cell Q135.out 0
      have c5 := Row.cell (R5.out.ch HC5.out (by omega)) 0
      simp at c12 c13 c5
      rcases Classical.em (M ≤ (np1 : Int)) with hM | hM
      · have hMd : decide (M ≤ (np1 : Int)) = true := decide_eq_true hM
        gi_wp2
        exact ⟨KeepsFrom.ch HCT.out HCELL.out, rfl, HFIN.out⟩
      · have hMd : decide (M ≤ (np1 : Int)) = false := decide_eq_false hM
        gi_wp2
        exact ⟨KeepsFrom.ch HCT.out HCELL.out, KeptS.ch HCT.out (fun y hs hS => by have h1 := (HCKB.out y hs).2; have h2 := HLOW.out y hS; omega), HFIN.out⟩
    case stop1 =>
      rintro D1 cd pre W hD ⟨rs, hrs⟩ ⟨rfl, x, r12, r13, cs, hch, hz, hds⟩ hK
      have hpl : pre.length ≤ 4000 := by
        have h1 := congrArg List.length hrs
        have h2 := HPK.out
        rw [← HALL.out, List.length_append, List.length_map] at h1
        rw [plB, List.length_map] at h2
        omega
      clear hrs rs
      have RR := Lib.hid r12
      have CS := Lib.hid cs
      have HC := Lib.hid hch
      have HKD := Lib.hid hK
      have HDS := Lib.hid hds
      have HLT1 := Lib.hid (show ∀ D' ∈ ([D0] : List Nat), D' < D1 from fun D' h => by have := (hds D' h).1; omega)
      have HDW1 := Lib.hid (show w15.heap.size ≤ D1 from by have := HCV.out.size; omega)
      have c12 := Row.cell r12 0
      have c13 := Row.cell r13 0
      have c8 := Row.cell (R8.out.ch hch (by omega)) 0
      simp at c12 c13 c8
      have HPL1 := Lib.hid hpl
      clear r12 r13 cs hch hK hds hpl hz hD
      gi_wp2
      go_wp2_with (first
        | (refine wpList_fresh1 rfl rfl rfl rfl rfl hii hiiz hiis rfl (.int .i64 1) rfl rfl rfl ?_; intro v2 hs g hr; have GV2 := Lib.hid g; have RV := Lib.hid (show Row v2 W.heap.size 3 #[.int .i64 1] from hr); have cv := Row.cell RV.out 0; simp at cv; clear hs g hr c12 c13 c8)
        | (refine wpList_put1 rfl rfl W.heap.size rfl (.int .i64 2) rfl RV.out (by kernel_rfl) rfl ?_; intro v3 hs g hr; have GV3 := Lib.hid g; have RV3 := Lib.hid (show Row v3 W.heap.size 3 #[.int .i64 2] from hr); clear hs g hr cv))
      skip
      obtain ⟨b12, hb12⟩ : ∃ b12, b12 = W.heap.size := ⟨_, rfl⟩
      have q12 : bc < b12 := by rw [hb12]; exact CS.out.1.lt
      rw [← hb12] at RV RV3 GV3 ⊢
      clear hb12
      have CV3 : Ch (fun y => y = b12) v2 v3 := Ch.ofSome GV3.out rfl
      have cs2 := CS.out.nc (b0 := 0) GV2.out (fun r e => by cases e)
      replace CS := Lib.hid (cs2.ch CV3 (by omega) (fun y hy e => by omega) (row_in RV.out cs2.2.1.outer (by decide)) (row_in RV.out cs2.2.2.1 (by decide)) (fun i hi h => row_in RV.out (cs2.2.1.inner i hi (by have := cs2.2.1.len; omega)) (by decide) h))
      replace HC := Lib.hid ((HC.out.then GV2.out).trans (CV3.mono (fun y _ h => by omega)) (fun _ _ h => h))
      have hdn : ∀ D' : Nat, W.heap[D']? = some (.deferred (some [])) → v3.heap[D']? = some (.deferred (some [])) := fun D' h => by
        have h2 := dds1 h GV2.out
        exact (CV3.block D' (Array.getElem?_eq_some_iff.1 h2).1 (fun e => by
          subst e
          have h3 : v2.heap[D']? = _ := RV.out
          rw [h2] at h3
          cases h3)).trans h2
      have HDS' := Lib.hid (show ∀ D' ∈ ([D1, D0] : List Nat), w15.heap.size ≤ D' ∧ v3.heap[D']? = some (.deferred (some [])) from fun D' h => by
        rcases List.mem_cons.1 h with rfl | h
        · exact ⟨HDW1.out, hdn _ HKD.out⟩
        · exact ⟨(HDO.out D' h), hdn _ (HDS.out D' h).2⟩)
      have RR := RV3
      have HDS := HDS'
      obtain ⟨t', ht'⟩ : ∃ t', t' = t ++ pre.map Pce.b := ⟨_, rfl⟩
      have htl : t'.length ≤ 12000 := by rw [ht', List.length_append, List.length_map]; have h1 := HTL.out; have h2 := HPL1.out; omega
      rw [← ht'] at CS
      obtain ⟨t, htt⟩ : ∃ t, t = t' := ⟨_, rfl⟩
      rw [← htt] at CS htl
      have HTL := Lib.hid htl
      clear htl ht' htt hdn CV3 cs2 GV2 GV3 RV HKD HDS'
      rw [rounds_succ]
      have c12 := Row.cell RR.out 0
      have c10 := Row.cell (R10.out.ch HC.out (by omega)) 0
      simp at c12 c10
      go_wp2_with (refine wpList_fresh1 rfl rfl rfl rfl rfl hii hiiz hiis rfl (.int .i64 0) rfl rfl rfl ?_; intro v1 hs g hr; have GV := Lib.hid g; have RN := Lib.hid (show Row v1 v3.heap.size 3 #[.int .i64 0] from hr); have c10' := Row.cell ((R10.out.ch HC.out (by omega)).grown g) 0; simp at c10'; clear hs g hr c10 c12)
      clear c10'
      obtain ⟨b13, hb13⟩ : ∃ b13, b13 = v3.heap.size := ⟨_, rfl⟩
      obtain ⟨hi, hhi⟩ : ∃ hi, hi = v1.heap.size := ⟨_, rfl⟩
      have q13 : b12 < b13 := by rw [hb13]; exact RR.out.lt
      rw [← hb13] at RN ⊢
      have qhi : b13 < hi := by rw [hhi]; exact RN.out.lt
      have HHI := Lib.hid hhi
      clear hb13 hhi
      replace RR := Lib.hid (RR.out.grown GV.out)
      replace HC := Lib.hid (HC.out.then GV.out)
      replace CS := Lib.hid (CS.out.nc (b0 := 0) GV.out (fun r e => by cases e))
      replace HDS := Lib.hid (show ∀ D ∈ ([D1, D0] : List Nat), w15.heap.size ≤ D ∧ D < hi ∧ v1.heap[D]? = some (.deferred (some [])) from fun D hD => ⟨(HDS.out D hD).1, (by have h := dds1 (HDS.out D hD).2 GV.out; rw [HHI.out]; exact (Array.getElem?_eq_some_iff.1 h).1), dds1 (HDS.out D hD).2 GV.out⟩)
      have HCV := Lib.hid HC.out
      have HDO := Lib.hid (show ∀ D ∈ ([D1, D0] : List Nat), w15.heap.size ≤ D from fun D hD => (HDS.out D hD).1)
      clear GV
      have hhi1 : hi ≤ v1.heap.size := by rw [HHI.out]; exact Nat.le_refl _
      have hhi2 : v1.heap.size ≤ hi := by rw [HHI.out]; exact Nat.le_refl _
      refine (wpIn_wide (n := 3)).1 ?_
      refine wpIn_rangeOkL (F := Fence.wide) (n := 3) rfl (by omega) (gf := 61) (lb := #[.pointer (some ⟨b1, 0, none⟩), .pointer (some ⟨b2, 0, none⟩)]) rfl trivial (enters_of Try.func61 (by kernel_rfl) rfl)
        (chunks1_in 2 _ b1 b2 z ao n co l v1 (HCK.out v1 HC.out) (by omega)) KeptS.trans (fun W l o o' hl _ _ _ => KeptS.put W l o' (fun hs => by have := (HCKB.out _ hs).2; omega))
        (fun pre x W0 W l o o' h hl ho => h.put l o' hl ho) (Below.refl _ _) (fun _ => rfl)
        (LwI w15 b12 b13 bc hi 2 [D1, D0] Lp (plB all) t) (fun _ _ _ => False) (LwI.own (by omega) (by omega)) (fun _ _ _ _ _ hs _ _ => hs.elim)
        ⟨x, RR.out, RN.out, by simpa using CS.out, HC.out, by omega, fun D hD => (HDS.out D hD).2⟩
        (fun T y => (((T.setIfInBounds 66 (.int .i64 (y.at_ : Int))).setIfInBounds 67 y.sl.val).setIfInBounds 14 (.int .i64 (y.at_ : Int))).setIfInBounds 15 y.sl.val) ?assign2 ?body2 ?done2 ?stop2
      case assign2 =>
        intro lp x W K hK
        simp only [Pce.vals]
        gi_wp2
        exact hK
      case body2 =>
        rintro lp pre ⟨at_, ⟨sa, sm, sc⟩, pb⟩ W0 W hlp hrec hI0 hI hkc hok
        obtain ⟨⟨ga, gc, Lg, wa, wc, Lw⟩, r12, r13, ⟨rc, lg0, sw0, wok, dj⟩, _, hz0, _⟩ := hI0
        obtain ⟨_, _, _, _, hchW, hzW, hdW⟩ := hI
        simp only at rc lg0 sw0 wok dj
        have rr := hok.at_
        rw [← HALL.out] at rr
        obtain ⟨rr, hrr⟩ := rr
        obtain ⟨np, hnp⟩ : ∃ np, np = pre.length := ⟨_, rfl⟩
        have hpk := HPK.out
        have hal : all.length = k := by rw [← hpk, plB, List.length_map]
        have hnk : np < k := by rw [← hal, ← hrr, hnp]; simp
        have hPn : np < (plB all).length := by rw [hpk]; exact hnk
        have hPe : pb = (plB all)[np] := by
          have h : (plB all)[np]? = some pb := by
            rw [plB, ← hrr, List.map_append, List.getElem?_append_right (by simp [hnp])]
            simp [hnp, Pce.pr]
          rw [List.getElem?_eq_getElem hPn] at h
          injection h with h
          exact h.symm
        have hat : (plN all).getD np 0 = (at_ : Int) := by
          rw [List.getD_eq_getElem?_getD, plN, ← hrr, List.map_append, List.getElem?_append_right (by simp [hnp])]
          simp [hnp, Pce.pr]
        have hat0 : np = 0 → at_ = 0 := fun h0 => by
          obtain rfl : pre = [] := List.eq_nil_of_length_eq_zero (by omega)
          have h1 : (all)[0]? = some (at_, pb) := by rw [← hrr]; rfl
          rw [HALL.out] at h1
          exact chL_first z l at_ pb h1
        have hown : BOwn W W0.heap.size sa sm sc pb := hok.own
        have hsm : pb.length = sm := BOwn.len hown
        have hpb4 : pb.length ≤ 4000 := by have := HPB.out pb (by rw [hPe]; exact List.getElem_mem _); omega
        obtain ⟨hl1, hl2, hl3⟩ := HLIE.out W hchW
        have hLn : np < Lp.length := by rw [hl2]; exact hPn
        obtain ⟨qb, qo, hqa, hq0⟩ := hl1 np (by rw [List.length_map]; exact hLn)
        clear hq0
        obtain ⟨⟨xa, xn, xc⟩, hs⟩ : ∃ s, s = Lp[np] := ⟨_, rfl⟩
        have hqc : ∀ u, Ch (fun y => bc ≤ y) w15 u → u.cell? ⟨qb, qo + np, none⟩ = some (.slice xa xn xc) := fun u hu => by
          obtain ⟨b', o', e, hc⟩ := (HLIE.out u hu).1 np (by rw [List.length_map]; exact hLn)
          rw [hqa] at e
          injection e with e; injection e with e1 e2
          subst e1; subst e2
          rw [hc, List.getElem_map, ← hs]
          rfl
        have HQC := Lib.hid hqc
        have hcq := hqc W hchW
        obtain ⟨hxl, hxn⟩ := hl3 np hLn hPn
        rw [← hs, ← hPe] at hxl hxn
        simp only at hxl hxn
        obtain ⟨ib2, io2, hpa, hpc⟩ := ints_cells (HINT.out W hchW) (by rw [plN, List.length_map, hal]; omega)
        have hcp := hpc np (by rw [plN, List.length_map, hal]; exact hnk)
        rw [hat] at hcp
        rw [← hnp] at r13
        obtain ⟨T, hT⟩ : ∃ T, T = t ++ pre.map Pce.b := ⟨_, rfl⟩
        obtain ⟨m, hm⟩ : ∃ m, m = T.length := ⟨_, rfl⟩
        rw [← hT] at rc lg0 sw0 wok
        rw [← hm] at rc lg0 sw0
        have hm4 : m ≤ 16100 := by rw [hm, hT, List.length_append, List.length_map, ← hnp]; have := HTL.out; omega
        have HSAME := Lib.hid (same_yes sa xa sc xc sm xn pb W hown.lies hxl hsm hxn.symm (by unfold maxLen; omega))
        have LG0 := Lib.hid lg0
        have LG := Lib.hid (lg0.keptC hkc)
        have SW := Lib.hid (show SOwn W (bc + 1) wa m wc Lw from Own.keptC sw0 hkc)
        have RC := Lib.hid (rc.keptC hkc)
        have Q12 := Lib.hid (r12.keptC hkc)
        have Q13 := Lib.hid (r13.keptC hkc)
        have HOWN := Lib.hid hown
        have HCW := Lib.hid hchW
        have HZ0 := Lib.hid hz0
        have HKZ := Lib.hid hkc.size
        have HDD := Lib.hid hdW
        have HWOK := Lib.hid wok
        have DJ := Lib.hid dj
        have HNP := Lib.hid hnp
        have HSX := Lib.hid hs
        have HPE := Lib.hid hPe
        have HTT := Lib.hid hT
        have HM := Lib.hid hm
        have HLP := Lib.hid hlp
        have HREC := Lib.hid hrec
        have HQA := Lib.hid hqa
        have HAT0 := Lib.hid hat0
        have c13 := Row.cell Q13.out 0
        have c8 := Row.cell (R8.out.ch hchW (by omega)) 0
        have c7 := Row.cell (R7.out.ch hchW (by omega)) 0
        simp at c13 c8 c7
        rw [hqa] at c8
        rw [hpa] at c7
        have hge : decide ((k : Int) ≤ (np : Int)) = false := decide_eq_false (by omega)
        have hge2 : decide (k ≤ np) = false := decide_eq_false (by omega)
        have hne : ((at_ : Int) != (at_ : Int)) = false := by simp
        clear hrr hok hown hl1 hl2 hl3 hqc hxl hpc lg0 sw0 rc r12 r13 hchW hz0 hkc wok dj hnp hs hPe hT hm hat hxn rr hqa hpa hal hpk hdW hlp hrec hzW hat0
        simp only [List.setIfInBounds_toArray, List.set_cons_zero, List.set_cons_succ, Sl.val]
        refine wpIn_block ?_
        refine wpIn_seq_k fun K1 hK1 => ?_
        have HK1 := Lib.hid hK1
        clear hK1
        gi_wp2_with ((with_reducible refine And.intro ?hh ?_); (case hh => exact trivial); gi_at_call 19; refine (calls_wide HSAME.out).mono ?_; rintro e W1 ⟨rfl, q5, hq5⟩; have GW1 := Lib.hid (show W.grownBy W1 none from hq5 ▸ grownBy_drewN _ _ _); clear hq5 q5)
        refine HK1.out _ _ ?_
        clear HK1 c13 c8 c7 hcp hcq hge hge2 hne
        have LG1 := Lib.hid (LG.out.grown GW1.out)
        have OWN1 := Lib.hid (BOwn.grown HOWN.out GW1.out)
        have SW1 := Lib.hid (show SOwn W1 (bc + 1) wa m wc Lw from Own.grownNone SW.out GW1.out)
        have RC1 := Lib.hid (RC.out.grown GW1.out)
        have Q121 := Lib.hid (Q12.out.grown GW1.out)
        have Q131 := Lib.hid (Q13.out.grown GW1.out)
        have HC1 := Lib.hid (HCW.out.then GW1.out)
        obtain ⟨np1, hnp1⟩ : ∃ np1, np1 = np + 1 := ⟨_, rfl⟩
        have hw1 : IntKind.i64.wrap ((np : Int) + 1) = (np1 : Int) := by rw [IntWalk.i64_in _ (by omega)]; omega
        have HNP1 := Lib.hid hnp1
        have c13 := Row.cell Q131.out 0
        simp at c13
        clear hnp1
        refine wpIn_seq ?_
        refine wpIn_regionP (by kernel_rfl) ?_
        go_wp2_with (refine wpList_put1 rfl rfl b13 rfl (.int .i64 (np1 : Int)) rfl Q131.out (by kernel_rfl) rfl ?_; intro W2 hs g hr; have Q132 := Lib.hid (show Row W2 b13 3 #[.int .i64 (np1 : Int)] from hr); have C2 := Lib.hid (Ch.ofSome (S := fun y => y = b13) g rfl); clear hs g hr)
        refine ⟨rfl, ?_⟩
        show Code.wpIn _ _ _ _ _ _ _
        clear c13 hw1
        have LG2 := Lib.hid (LG1.out.chS C2.out (fun y hy h => by subst h; exact row_in Q131.out LG1.out.outer (by decide) hy) (fun i hi y hy h => by subst h; exact row_in Q131.out (LG1.out.inner i hi (by have := LG1.out.len; omega)) (by decide) hy))
        have OWN2 := Lib.hid (show BOwn W2 W0.heap.size sa sm sc pb from Own.ch OWN1.out C2.out (fun h0 y e h => by subst h; exact row_in Q131.out OWN1.out (by decide) ⟨h0, e⟩))
        have SW2 := Lib.hid (show SOwn W2 (bc + 1) wa m wc Lw from Own.ch SW1.out C2.out (fun h0 y e h => by subst h; exact row_in Q131.out SW1.out (by decide) ⟨h0, e⟩))
        have RC2 := Lib.hid (RC1.out.ch C2.out (by omega))
        have Q122 := Lib.hid (Q121.out.ch C2.out (by omega))
        have HC2 := Lib.hid (HC1.out.trans (C2.out.mono (fun y _ h => by omega)) (fun _ _ h => h))
        have OG2 := Lib.hid (show Own W2 (bc + 1) 22 1 ga m gc (Lg.map Sl.val) from LG2.out.outer)
        have ZB2 := Lib.hid (show bc + 1 ≤ W2.heap.size from RC2.out.lt)
        have cg := Row.cell RC2.out 0
        simp at cg
        refine wpIn_seq ?_
        refine wpIn_regionP (by kernel_rfl) ?_
        go_wp2_with (first
          | ((with_reducible show wpList _ _ _ ({ dst := some 95, op := _, type := _, pos := _, after := _, guard := _ } :: _) _ _); refine wpList_push elS rfl (.tmp 92) (.tmp 94) rfl rfl OG2.out (.slice sa sm sc) rfl rfl (by unfold maxLen; omega) (by omega) ZB2.out ?_; intro g3 cp3 W3 hown hgr; have O3 := Lib.hid hown; have GR3 := Lib.hid hgr; have RC3 := Lib.hid (RC2.out.ch hgr.ch (row_in RC2.out OG2.out (by decide))); have cg3 := Row.cell RC3.out 0; have fg3 := Row.frozen RC3.out 0; simp at cg3; clear hown hgr cg)
          | ((with_reducible show wpList _ _ _ ({ dst := none, op := _, type := _, pos := _, after := _, guard := _ } :: _) _ _); refine wpList_skipC rfl (w1 := W3.setCell ⟨bc, 0, none⟩ (.slice (some ⟨g3, 0, none⟩) (m + 1) cp3)) (by go_simp) ?_))
        obtain ⟨W4, hW4⟩ : ∃ W4, W4 = W3.setCell ⟨bc, 0, none⟩ (.slice (some ⟨g3, 0, none⟩) (m + 1) cp3) := ⟨_, rfl⟩
        rw [← hW4]
        have hg4 : W3.grownBy W4 (some bc) := hW4 ▸ grownBy_setCell _ _ _ _
        have RC4 := Lib.hid (show Row W4 bc 33 #[.slice (some ⟨g3, 0, none⟩) (m + 1) cp3, .slice wa m wc] from hW4 ▸ Row.setc RC3.out 0 _)
        refine ⟨rfl, ?_⟩
        show Code.wpIn _ _ _ _ _ _ _
        have hb3 := row_in RC3.out O3.out (by decide)
        have O4 := Lib.hid (Own.ch O3.out (Ch.ofSome (S := fun y => y = bc) hg4 rfl) (fun h0 y e h => by subst h; exact hb3 ⟨h0, e⟩))
        have C4 := Lib.hid (show Ch (fun y => In ga gc y ∨ y = bc) W2 W4 from (GR3.out.ch.mono (fun _ _ h => .inl h)).trans (Ch.ofSome (S := fun y => In ga gc y ∨ y = bc) hg4 (.inr rfl)) (fun _ _ h => h))
        have I4 := Lib.hid (show ∀ y, In (some ⟨g3, 0, none⟩) cp3 y → In ga gc y ∨ W2.heap.size ≤ y from fun y hy => GR3.out.inn hy)
        clear cg3 fg3 hW4 hg4 hb3 RC3
        have n4 : ∀ y cs (T' : TypeId), Row W2 y T' cs → T' ≠ 22 → y ≠ bc → ¬ (In ga gc y ∨ y = bc) := fun y cs T' hr hT h h2 => h2.elim (row_in hr OG2.out hT) h
        have Q124 := Lib.hid (Q122.out.ch C4.out (n4 _ _ _ Q122.out (by decide) (by omega)))
        have Q134 := Lib.hid (Q132.out.ch C4.out (n4 _ _ _ Q132.out (by decide) (by omega)))
        have LG4 := Lib.hid (LIs.pushR LG0.out (by have := HZ0.out; omega) LG2.out OWN2.out (by omega) C4.out O4.out)
        have SW4 := Lib.hid (show SOwn W4 (bc + 1) wa m wc Lw from Own.ch SW2.out C4.out (fun h0 y e h => by
          rcases h with h | rfl
          · exact DJ.out y h ⟨h0, e⟩
          · have := (Own.inn SW2.out (g := y) ⟨h0, e⟩).1; omega))
        have HGB := Lib.hid (show ∀ y, In ga gc y → bc ≤ y from fun y h => by have := (Own.inn OG2.out h).1; omega)
        have HWB := Lib.hid (show ∀ y, In wa wc y → bc ≤ y from fun y h => by have := (Own.inn SW2.out h).1; omega)
        have HC4 := Lib.hid (HC2.out.trans (C4.out.mono (fun y _ h => h.elim (fun h => HGB.out _ h) (fun h => by omega))) (fun _ _ h => h))
        have ZB4 := Lib.hid (show bc + 1 ≤ W4.heap.size from RC4.out.lt)
        have DJ4 := Lib.hid (show ∀ y, In (some ⟨g3, 0, none⟩) cp3 y → In wa wc y → False from fun y h1 h2 => (I4.out y h1).elim (fun h => DJ.out y h h2) (fun h => by have := (Own.inn SW2.out h2).2; omega))
        have OW4 := Lib.hid (show Own W4 (bc + 1) 22 1 wa m wc (Lw.map Sl.val) from SW4.out)
        have R84 := Lib.hid (show Row W4 b8 24 #[.slice (some ⟨qb, qo, none⟩) k qc] from HQA.out ▸ R8.out.ch HC4.out (by omega))
        have hw5 : IntKind.i64.wrap ((np1 : Int) - 1) = (np : Int) := by have := HNP1.out; rw [IntWalk.i64_in _ (by omega)]; omega
        clear n4
        refine wpIn_seq ?_
        refine wpIn_regionX (AppS W4 (bc + 1) 22 wa m wc (Lw.map Sl.val)) 10 (by kernel_rfl) (by kernel_rfl) ⟨Ch.ofNone (grownBy_drewN W4 1 none) _, Own.grownNone OW4.out (grownBy_drewN W4 1 none)⟩ ?_
        refine wpX_take 0 (v := .pointer (some ⟨bc, 1, none⟩)) (oi := { dst := some 97, op := Op.fieldAddr 33 (Operand.tmp 11) 1, type := 0, pos := "law.go:166", after := #[], guard := none }) (oL := { dst := none, op := Op.store 24 (Operand.tmp 106) (Operand.tmp 105), type := 0, pos := "law.go:166", after := #[{ on := 9, ground := Ground.data }, { on := 8, ground := Ground.data }, { on := 8, ground := Ground.chain }, { on := 0, ground := Ground.phase }, { on := 1, ground := Ground.phase }, { on := 2, ground := Ground.phase }, { on := 3, ground := Ground.phase }, { on := 4, ground := Ground.phase }, { on := 5, ground := Ground.phase }, { on := 6, ground := Ground.phase }, { on := 7, ground := Ground.phase }, { on := 8, ground := Ground.phase }], guard := none }) (clo_app _ _ _ _ _ _ _) rfl rfl rfl (by kernel_rfl) (by kernel_rfl) (by kernel_rfl) (by kernel_rfl) (by kernel_rfl) (fun _ _ _ h => by cases h.1) (YG.val (by rfl) (fun _ _ => by go_simp)) ?_
        simp only [Act.put, List.setIfInBounds_toArray, List.set_cons_zero, List.set_cons_succ]
        refine wpX_take 1 (v := .slice wa m wc) (oi := { dst := some 98, op := Op.load 24 (Operand.tmp 97), type := 24, pos := "law.go:166", after := #[{ on := 0, ground := Ground.data }], guard := none }) (oL := { dst := none, op := Op.store 24 (Operand.tmp 106) (Operand.tmp 105), type := 0, pos := "law.go:166", after := #[{ on := 9, ground := Ground.data }, { on := 8, ground := Ground.data }, { on := 8, ground := Ground.chain }, { on := 0, ground := Ground.phase }, { on := 1, ground := Ground.phase }, { on := 2, ground := Ground.phase }, { on := 3, ground := Ground.phase }, { on := 4, ground := Ground.phase }, { on := 5, ground := Ground.phase }, { on := 6, ground := Ground.phase }, { on := 7, ground := Ground.phase }, { on := 8, ground := Ground.phase }], guard := none }) (clo_app _ _ _ _ _ _ _) rfl rfl rfl (by kernel_rfl) (by kernel_rfl) (by kernel_rfl) (by kernel_rfl) (by kernel_rfl) (fun _ _ _ h => by cases h.1) (YG.val (by rfl) (fun u hu => by have c := Row.cell (RC4.out.ch hu.1 (row_in RC4.out OW4.out (by decide))) 1; simp at c; go_simp)) ?_
        simp only [Act.put, List.setIfInBounds_toArray, List.set_cons_zero, List.set_cons_succ]
        refine wpX_take 2 (v := .slice (some ⟨qb, qo, none⟩) k qc) (oi := { dst := some 99, op := Op.load 24 (Operand.tmp 8), type := 24, pos := "law.go:166", after := #[], guard := none }) (oL := { dst := none, op := Op.store 24 (Operand.tmp 106) (Operand.tmp 105), type := 0, pos := "law.go:166", after := #[{ on := 9, ground := Ground.data }, { on := 8, ground := Ground.data }, { on := 8, ground := Ground.chain }, { on := 0, ground := Ground.phase }, { on := 1, ground := Ground.phase }, { on := 2, ground := Ground.phase }, { on := 3, ground := Ground.phase }, { on := 4, ground := Ground.phase }, { on := 5, ground := Ground.phase }, { on := 6, ground := Ground.phase }, { on := 7, ground := Ground.phase }, { on := 8, ground := Ground.phase }], guard := none }) (clo_app _ _ _ _ _ _ _) rfl rfl rfl (by kernel_rfl) (by kernel_rfl) (by kernel_rfl) (by kernel_rfl) (by kernel_rfl) (fun _ _ _ h => by cases h.1) (YG.val (by rfl) (fun u hu => by have c := Row.cell (R84.out.ch hu.1 (row_in R84.out OW4.out (by decide))) 0; simp at c; go_simp)) ?_
        simp only [Act.put, List.setIfInBounds_toArray, List.set_cons_zero, List.set_cons_succ]
        refine wpX_take 3 (v := .int .i64 (np1 : Int)) (oi := { dst := some 100, op := Op.load 3 (Operand.tmp 13), type := 3, pos := "law.go:166", after := #[], guard := none }) (oL := { dst := none, op := Op.store 24 (Operand.tmp 106) (Operand.tmp 105), type := 0, pos := "law.go:166", after := #[{ on := 9, ground := Ground.data }, { on := 8, ground := Ground.data }, { on := 8, ground := Ground.chain }, { on := 0, ground := Ground.phase }, { on := 1, ground := Ground.phase }, { on := 2, ground := Ground.phase }, { on := 3, ground := Ground.phase }, { on := 4, ground := Ground.phase }, { on := 5, ground := Ground.phase }, { on := 6, ground := Ground.phase }, { on := 7, ground := Ground.phase }, { on := 8, ground := Ground.phase }], guard := none }) (clo_app _ _ _ _ _ _ _) rfl rfl rfl (by kernel_rfl) (by kernel_rfl) (by kernel_rfl) (by kernel_rfl) (by kernel_rfl) (fun _ _ _ h => by cases h.1) (YG.val (by rfl) (fun u hu => by have c := Row.cell (Q134.out.ch hu.1 (row_in Q134.out OW4.out (by decide))) 0; simp at c; go_simp)) ?_
        simp only [Act.put, List.setIfInBounds_toArray, List.set_cons_zero, List.set_cons_succ]
        refine wpX_take 4 (v := .int .i64 (np : Int)) (oi := { dst := some 101, op := Op.binOp BinOp.sub 3 (Operand.tmp 100) (Operand.const (Value.int IntKind.i64 1)) 3, type := 3, pos := "law.go:166", after := #[{ on := 3, ground := Ground.data }], guard := none }) (oL := { dst := none, op := Op.store 24 (Operand.tmp 106) (Operand.tmp 105), type := 0, pos := "law.go:166", after := #[{ on := 9, ground := Ground.data }, { on := 8, ground := Ground.data }, { on := 8, ground := Ground.chain }, { on := 0, ground := Ground.phase }, { on := 1, ground := Ground.phase }, { on := 2, ground := Ground.phase }, { on := 3, ground := Ground.phase }, { on := 4, ground := Ground.phase }, { on := 5, ground := Ground.phase }, { on := 6, ground := Ground.phase }, { on := 7, ground := Ground.phase }, { on := 8, ground := Ground.phase }], guard := none }) (clo_app _ _ _ _ _ _ _) rfl rfl rfl (by kernel_rfl) (by kernel_rfl) (by kernel_rfl) (by kernel_rfl) (by kernel_rfl) (fun _ _ _ h => by cases h.1) (YG.val (by rfl) (fun _ _ => by go_simp)) ?_
        simp only [Act.put, List.setIfInBounds_toArray, List.set_cons_zero, List.set_cons_succ]
        refine wpX_take 5 (v := .pointer (some ⟨qb, qo + np, none⟩)) (oi := { dst := some 102, op := Op.indexAddr 24 (Operand.tmp 99) (Operand.tmp 101), type := 0, pos := "law.go:166", after := #[{ on := 2, ground := Ground.data }, { on := 4, ground := Ground.data }], guard := none }) (oL := { dst := none, op := Op.store 24 (Operand.tmp 106) (Operand.tmp 105), type := 0, pos := "law.go:166", after := #[{ on := 9, ground := Ground.data }, { on := 8, ground := Ground.data }, { on := 8, ground := Ground.chain }, { on := 0, ground := Ground.phase }, { on := 1, ground := Ground.phase }, { on := 2, ground := Ground.phase }, { on := 3, ground := Ground.phase }, { on := 4, ground := Ground.phase }, { on := 5, ground := Ground.phase }, { on := 6, ground := Ground.phase }, { on := 7, ground := Ground.phase }, { on := 8, ground := Ground.phase }], guard := none }) (clo_app _ _ _ _ _ _ _) rfl rfl rfl (by kernel_rfl) (by kernel_rfl) (by kernel_rfl) (by kernel_rfl) (by kernel_rfl) (fun _ _ _ h => by cases h.1) (YG.val (by rfl) (fun _ _ => by go_simp)) ?_
        simp only [Act.put, List.setIfInBounds_toArray, List.set_cons_zero, List.set_cons_succ]
        refine wpX_take 6 (v := .slice xa xn xc) (oi := { dst := some 103, op := Op.load 22 (Operand.tmp 102), type := 22, pos := "law.go:166", after := #[{ on := 5, ground := Ground.data }], guard := none }) (oL := { dst := none, op := Op.store 24 (Operand.tmp 106) (Operand.tmp 105), type := 0, pos := "law.go:166", after := #[{ on := 9, ground := Ground.data }, { on := 8, ground := Ground.data }, { on := 8, ground := Ground.chain }, { on := 0, ground := Ground.phase }, { on := 1, ground := Ground.phase }, { on := 2, ground := Ground.phase }, { on := 3, ground := Ground.phase }, { on := 4, ground := Ground.phase }, { on := 5, ground := Ground.phase }, { on := 6, ground := Ground.phase }, { on := 7, ground := Ground.phase }, { on := 8, ground := Ground.phase }], guard := none }) (clo_app _ _ _ _ _ _ _) rfl rfl rfl (by kernel_rfl) (by kernel_rfl) (by kernel_rfl) (by kernel_rfl) (by kernel_rfl) (fun _ _ _ h => by cases h.1) (YG.val (by rfl) (fun u hu => by have c := HQC.out u (HC4.out.trans (hu.1.mono (fun _ h1 h2 => HWB.out _ h2)) (fun _ _ h => h)); go_simp)) ?_
        simp only [Act.put, List.setIfInBounds_toArray, List.set_cons_zero, List.set_cons_succ]
        refine wpX_step 7 (o := { dst := some 104, op := Op.buildSlice 24 1 #[(0, Operand.tmp 103)], type := 24, pos := "law.go:166", after := #[{ on := 6, ground := Ground.data }], guard := none }) rfl rfl (by kernel_rfl) (by rfl) (fun u2 hS2 K hK => ?_)
        have HKK := Lib.hid hK
        have HS2 := Lib.hid hS2
        clear hK hS2
        have ha2 := World.grownBy_alloc u2 (.cells #[.slice xa xn xc] 22) none
        refine wp_val_op (v := .slice (some ⟨u2.heap.size, 0, none⟩) 1 1) (w1 := u2.alloc (.cells #[.slice xa xn xc] 22)) (by go_simp) ?_
        have hrw2 : Row (u2.alloc (.cells #[.slice xa xn xc] 22)) u2.heap.size 22 #[.slice xa xn xc] := heap_alloc_new u2 _
        refine HKK.out (fun u => AppS W4 (bc + 1) 22 wa m wc (Lw.map Sl.val) u ∧ Row u u2.heap.size 22 #[.slice xa xn xc]) _ _ ⟨clo_app _ _ _ _ _ _ _ _ _ HS2.out ha2, hrw2⟩ (fun u h => h.1) (clo_and (clo_app _ _ _ _ _ _ _) (clo_row _ _ _)) ?_
        simp only [Act.put, List.setIfInBounds_toArray, List.set_cons_zero, List.set_cons_succ]
        clear ha2 hrw2
        have hu26 : W4.heap.size ≤ u2.heap.size := HS2.out.1.size
        refine wpX_step 8 (o := { dst := some 105, op := Op.call { callee := Callee.builtin Builtin.append, args := #[Operand.tmp 98, Operand.tmp 104], argTypes := #[24, 24] }, type := 24, pos := "law.go:166", after := #[{ on := 1, ground := Ground.data }, { on := 7, ground := Ground.data }], guard := none }) rfl rfl (by kernel_rfl) (by rfl) (fun u3 hS3 K3 hK3 => ?_)
        have HK3 := Lib.hid hK3
        have HS3 := Lib.hid hS3
        clear hK3 hS3
        have hnews : ∀ j u, ([.slice xa xn xc] : List Value)[j]? = some u → u3.cell? ((⟨u2.heap.size, 0, none⟩ : Addr).add j) = some u := by
          intro j u hu
          have h2 : ((⟨u2.heap.size, 0, none⟩ : Addr).add j) = ⟨u2.heap.size, j, none⟩ := by unfold Addr.add; split <;> simp_all
          rw [h2, Row.cell HS3.out.2]
          simpa using hu
        have hzb : (bc + 1) ≤ u3.heap.size := by
          have h1 := ZB4.out
          have h2 := HS3.out.1.1.size
          omega
        have hFn : ¬ In wa wc u2.heap.size := fun h => by
          have := (Own.inn OW4.out h).2
          omega
        obtain ⟨gW5, cW5, w8, hrun, hown8, hgr8⟩ := run_app (P := Try.prog) (ty := 24) u3 elS HS3.out.1.2 ⟨u2.heap.size, 0, none⟩ 1 1 [.slice xa xn xc] rfl hnews (by simp [Value.oneCell']) (by unfold maxLen; omega) (by omega) hzb (fun _ _ _ => trivial) (by omega)
        refine wp_val_op (v := .slice (some ⟨gW5, 0, none⟩) (m + 1) cW5) (w1 := w8) (run_app_op u3 w8 _ (.tmp 98) (.tmp 104) rfl _ hrun) ?_
        refine HK3.out (fun u => (AppS W4 (bc + 1) 22 wa m wc (Lw.map Sl.val) u ∧ Row u u2.heap.size 22 #[.slice xa xn xc]) ∧ w8.grownBy u none) _ _ ⟨⟨⟨HS3.out.1.1.trans hgr8.ch (fun _ _ h => h), own_behind HS3.out.1.2 hown8 hgr8⟩, Row.ch HS3.out.2 hgr8.ch hFn⟩, World.grownBy.refl _ _⟩ (fun u h => h.1) (clo_and (clo_and (clo_app _ _ _ _ _ _ _) (clo_row _ _ _)) (clo_grown _)) ?_
        simp only [Act.put, List.setIfInBounds_toArray, List.set_cons_zero, List.set_cons_succ]
        refine wpX_take 9 (v := .pointer (some ⟨bc, 1, none⟩)) (oi := { dst := some 106, op := Op.fieldAddr 33 (Operand.tmp 11) 1, type := 0, pos := "law.go:166", after := #[{ on := 0, ground := Ground.phase }, { on := 1, ground := Ground.phase }, { on := 2, ground := Ground.phase }, { on := 3, ground := Ground.phase }, { on := 4, ground := Ground.phase }, { on := 5, ground := Ground.phase }, { on := 6, ground := Ground.phase }, { on := 7, ground := Ground.phase }, { on := 8, ground := Ground.phase }], guard := none }) (oL := { dst := none, op := Op.store 24 (Operand.tmp 106) (Operand.tmp 105), type := 0, pos := "law.go:166", after := #[{ on := 9, ground := Ground.data }, { on := 8, ground := Ground.data }, { on := 8, ground := Ground.chain }, { on := 0, ground := Ground.phase }, { on := 1, ground := Ground.phase }, { on := 2, ground := Ground.phase }, { on := 3, ground := Ground.phase }, { on := 4, ground := Ground.phase }, { on := 5, ground := Ground.phase }, { on := 6, ground := Ground.phase }, { on := 7, ground := Ground.phase }, { on := 8, ground := Ground.phase }], guard := none }) (clo_and (clo_and (clo_app _ _ _ _ _ _ _) (clo_row _ _ _)) (clo_grown _)) rfl rfl rfl (by kernel_rfl) (by kernel_rfl) (by kernel_rfl) (by kernel_rfl) (by kernel_rfl) (fun _ _ _ h => by cases h.1) (YG.val (by rfl) (fun _ _ => by go_simp)) ?_
        simp only [Act.put, List.setIfInBounds_toArray, List.set_cons_zero, List.set_cons_succ]
        refine wpX_last (oL := { dst := none, op := Op.store 24 (Operand.tmp 106) (Operand.tmp 105), type := 0, pos := "law.go:166", after := #[{ on := 9, ground := Ground.data }, { on := 8, ground := Ground.data }, { on := 8, ground := Ground.chain }, { on := 0, ground := Ground.phase }, { on := 1, ground := Ground.phase }, { on := 2, ground := Ground.phase }, { on := 3, ground := Ground.phase }, { on := 4, ground := Ground.phase }, { on := 5, ground := Ground.phase }, { on := 6, ground := Ground.phase }, { on := 7, ground := Ground.phase }, { on := 8, ground := Ground.phase }], guard := none }) rfl (by kernel_rfl) (by kernel_rfl) (by rfl) (fun u4 hS4 K4 hK4 => ?_)
        have hrow4 := RC4.out.ch hS4.1.1.1 (row_in RC4.out OW4.out (by decide))
        have hc4 := Row.cell hrow4 1
        have hf4 := Row.frozen hrow4 1
        simp at hc4
        refine wp_skip_op (w1 := u4.setCell ⟨bc, 1, none⟩ (.slice (some ⟨gW5, 0, none⟩) (m + 1) cW5)) (by go_simp) (hK4 _ _ ?_)
        simp only [Act.put]
        obtain ⟨W5, hw9⟩ : ∃ W5, W5 = u4.setCell ⟨bc, 1, none⟩ (.slice (some ⟨gW5, 0, none⟩) (m + 1) cW5) := ⟨_, rfl⟩
        rw [← hw9]
        have hg9 : u4.grownBy W5 (some bc) := hw9 ▸ grownBy_setCell _ _ _ _
        have RW5 := Lib.hid (show Row W5 bc 33 #[.slice (some ⟨g3, 0, none⟩) (m + 1) cp3, .slice (some ⟨gW5, 0, none⟩) (m + 1) cW5] from hw9 ▸ Row.setc hrow4 1 _)
        have hown4 : Own u4 (bc + 1) 22 1 (some ⟨gW5, 0, none⟩) (m + 1) cW5 (Lw.map Sl.val ++ [.slice xa xn xc]) := Own.grownNone hown8 hS4.2
        have hnb := row_in hrow4 hown4 (by decide)
        have OW5 := Lib.hid (Own.ch hown4 (Ch.ofSome (S := fun x => x = bc) hg9 rfl) (fun h0 g e h => by subst h; exact hnb ⟨h0, e⟩))
        have CW5 := Lib.hid (show Ch (fun x => In wa wc x ∨ x = bc) W4 W5 from (hS4.1.1.1.mono (fun _ _ h => .inl h)).trans (Ch.ofSome (S := fun x => In wa wc x ∨ x = bc) hg9 (.inr rfl)) (fun _ _ h => h))
        have IW5 := Lib.hid (show ∀ x, In (some ⟨gW5, 0, none⟩) cW5 x → In wa wc x ∨ W4.heap.size ≤ x from fun x hx => (hgr8.inn hx).imp id (fun h => Nat.le_trans (show W4.heap.size ≤ u3.heap.size from HS3.out.1.1.size) h))
        clear HKK HS2 HK3 HS3 hnews hzb hFn hrun hown8 hgr8 hS4 hK4 hrow4 hc4 hf4 hw9 hg9 hown4 hnb hu26
        refine ⟨rfl, ?_⟩
        show Code.wpIn _ _ _ _ _ _ _
        clear hw5
        have n5 : ∀ y cs (T' : TypeId), Row W4 y T' cs → T' ≠ 22 → y ≠ bc → ¬ (In wa wc y ∨ y = bc) := fun y cs T' hr hT h h2 => h2.elim (row_in hr OW4.out hT) h
        have Q125 := Lib.hid (Q124.out.ch CW5.out (n5 _ _ _ Q124.out (by decide) (by omega)))
        have Q135 := Lib.hid (Q134.out.ch CW5.out (n5 _ _ _ Q134.out (by decide) (by omega)))
        have LG5 := Lib.hid (LG4.out.chS CW5.out (fun y hy h => by
            rcases h with h | rfl
            · exact DJ4.out y hy h
            · have := (Own.inn LG4.out.outer hy).1; omega) (fun i hi y hy h => by
            rcases h with h | rfl
            · exact byte_notin (LG4.out.inner i hi (by have := LG4.out.len; omega)) OW4.out y hy h
            · have := (LG4.out.inn hi hy).1; omega))
        have HC5 := Lib.hid (HC4.out.trans (CW5.out.mono (fun y _ h => h.elim (fun h => HWB.out _ h) (fun h => by omega))) (fun _ _ h => h))
        have DJ5 := Lib.hid (show ∀ y, In (some ⟨g3, 0, none⟩) cp3 y → In (some ⟨gW5, 0, none⟩) cW5 y → False from fun y h1 h2 => (IW5.out y h2).elim (fun h => DJ4.out y h1 h) (fun h => by have := (Own.inn LG4.out.outer h1).2; omega))
        have hTl : (T ++ [pb]).length = m + 1 := by rw [HM.out]; simp
        have CK5 : CkS bc (bc + 1) Lp (plB all) (T ++ [pb]) ⟨some ⟨g3, 0, none⟩, cp3, Lg ++ [⟨sa, sm, sc⟩], some ⟨gW5, 0, none⟩, cW5, Lw ++ [⟨xa, xn, xc⟩]⟩ W5 := by
          refine ⟨?_, ?_, ?_, HWOK.out.push np hLn hPn HSX.out HPE.out, DJ5.out⟩
          · show Row _ _ _ #[.slice _ (T ++ [pb]).length _, .slice _ (T ++ [pb]).length _]
            rw [hTl]; exact RW5.out
          · show LIs _ _ _ (T ++ [pb]).length _ _ _
            rw [hTl]; exact LG5.out
          · show Own _ _ _ _ _ (T ++ [pb]).length _ _
            rw [hTl, List.map_append]; exact OW5.out
        have HCK5 := Lib.hid CK5
        have HCT := Lib.hid (show Ch (fun y => y = bc ∨ In ga gc y ∨ In wa wc y ∨ y = b13) W W5 from (((Ch.ofNone GW1.out _).trans (C2.out.mono (fun _ _ h => by simp [h])) (fun _ _ h => h)).trans (C4.out.mono (fun _ _ h => by rcases h with h | h <;> simp [h])) (fun _ _ h => h)).trans (CW5.out.mono (fun _ _ h => by rcases h with h | h <;> simp [h])) (fun _ _ h => h))
        have HCELL := Lib.hid (show ∀ y, (y = bc ∨ In ga gc y ∨ In wa wc y ∨ y = b13) → ∃ cs t m, W.heap[y]? = some (.cells cs t m) from fun y hS => by
          rcases hS with rfl | h | h | rfl
          · exact ⟨_, _, _, RC.out⟩
          · exact Own.cellsAt LG.out.outer h
          · exact Own.cellsAt SW.out h
          · exact ⟨_, _, _, Q13.out⟩)
        have HLOW := Lib.hid (show ∀ y, (y = bc ∨ In ga gc y ∨ In wa wc y ∨ y = b13) → bc ≤ y from fun y hS => by
          rcases hS with rfl | h | h | rfl
          · exact Nat.le_refl _
          · exact HGB.out y h
          · exact HWB.out y h
          · omega)
        have HD5 := Lib.hid (show ∀ D ∈ ([D1, D0] : List Nat), D < hi ∧ W5.heap[D]? = some (.deferred (some [])) from fun D hD => ⟨(HDD.out D hD).1, (HCT.out.block D (Array.getElem?_eq_some_iff.1 (HDD.out D hD).2).1 (fun hS => by
          obtain ⟨cs, t', m', h⟩ := HCELL.out D hS
          rw [(HDD.out D hD).2] at h
          cases h)).trans (HDD.out D hD).2⟩)
        have hlen : ((pre ++ [(⟨at_, ⟨sa, sm, sc⟩, pb⟩ : Pce)]).length : Int) = (np1 : Int) := by have := HNP.out; have := HNP1.out; simp; omega
        have happ : t ++ (pre ++ [(⟨at_, ⟨sa, sm, sc⟩, pb⟩ : Pce)]).map Pce.b = T ++ [pb] := by rw [HTT.out]; simp
        have HFIN := Lib.hid (show LwI w15 b12 b13 bc hi 2 [D1, D0] Lp (plB all) t (pre ++ [(⟨at_, ⟨sa, sm, sc⟩, pb⟩ : Pce)]) W5 from ⟨_, Q125.out, by rw [hlen]; exact Q135.out, by rw [happ]; exact CK5, HC5.out, by have h1 := HCT.out.size; have h2 := HZ0.out; have h3 := HKZ.out; omega, HD5.out⟩)
        clear n5 hTl CK5 hlen happ
        have c12 := Row.cell Q125.out 0
        have c13 := Row.cell Q135.out 0
        have c5 := Row.cell (R5.out.ch HC5.out (by omega)) 0
        simp at c12 c13 c5
        rcases Classical.em (np1 = 2) with h2 | h2
        · have h2d : ((np1 : Int) == 2) = true := by rw [beq_iff_eq]; omega
          clear h2
          have c10 := Row.cell (R10.out.ch HC5.out (by omega)) 0
          simp at c10
          gi_wp2
          clear c10 c12 c13 c5 h2d
          have hz5 : W.heap.size ≤ W5.heap.size := HCT.out.size
          have hz0' : hi ≤ W5.heap.size := HFIN.out.choose_spec.2.2.2.2.1
          obtain ⟨NS, hNS⟩ : ∃ NS, NS = (fun (U : World) => KeepsFrom v1.heap.size W U ∧ KeptS (Chk.S b1 b2 ao co) W U ∧ LwI w15 b12 b13 bc hi 2 [D1, D0] Lp (plB all) t (pre ++ [(⟨at_, ⟨sa, sm, sc⟩, pb⟩ : Pce)]) U) := ⟨_, rfl⟩
          have nsO : ∀ (A B : World) (row : Option Nat), NS A → A.grownBy B row → (∀ r, row = some r → W5.heap.size ≤ r ∧ ∃ o : Obj, A.heap[r]? = some o ∧ o.isCells = false) → NS B := by
            subst hNS
            intro A B row ⟨n1, n2, n3⟩ hg hr
            exact ⟨ownFrom_keepsFrom (β := Unit) (B := v1.heap.size) hz5 () A B row n1 hg hr, n2.nc hg hz5 (fun r e => (hr r e).1), LwI.own (by omega) hz0' _ A B row n3 hg hr⟩
          have nsC : ∀ U, NS U → Ch (fun y => bc ≤ y) w15 U := by subst hNS; intro U h; exact h.2.2.choose_spec.2.2.2.1
          have ns5 : NS W5 := by
            subst hNS
            exact ⟨KeepsFrom.ch HCT.out HCELL.out, KeptS.ch HCT.out (fun y hs hS => by have h1 := (HCKB.out y hs).2; have h2 := HLOW.out y hS; omega), HFIN.out⟩
          have nsE : ∀ U, NS U → KeepsFrom v1.heap.size W U ∧ KeptS (Chk.S b1 b2 ao co) W U ∧ LwI w15 b12 b13 bc hi 2 [D1, D0] Lp (plB all) t (pre ++ [(⟨at_, ⟨sa, sm, sc⟩, pb⟩ : Pce)]) U := by subst hNS; intro U h; exact h
          have NSO := Lib.hid nsO
          have NSC := Lib.hid nsC
          have NS5 := Lib.hid ns5
          have NSE := Lib.hid nsE
          obtain ⟨r0, hr0⟩ := HREC.out
          have hr5 : W5.heap[lp]? = some (.loop r0) := (HCT.out.block lp (Array.getElem?_eq_some_iff.1 hr0).1 (fun hS => by
            obtain ⟨cs, t', m', h⟩ := HCELL.out lp hS
            rw [hr0] at h
            cases h)).trans hr0
          clear nsO nsC ns5 nsE hNS hr0
          refine wpIn_rangeOkN (F := Fence.wide.inRound lp) (n := 1) (l₀ := lp) (r₀ := r0) rfl hr5 (by omega) (gf := 61) (lb := #[.pointer (some ⟨b1, 0, none⟩), .pointer (some ⟨b2, 0, none⟩)]) rfl trivial (enters_of Try.func61 (by kernel_rfl) rfl)
            (SeqOk.inRound lp (chunks1_in 0 _ b1 b2 z ao n co l W5 (HCK.out W5 HC5.out) (by omega))) KeptS.trans (fun W l o o' hl _ _ _ => KeptS.put W l o' (fun hs => by have := (HCKB.out _ hs).2; have := HC5.out.size; omega))
            (fun pre x W0 W l o o' h hl ho => h.put l o' hl ho) (Below.refl _ _) (fun _ => rfl)
            (fun pre' U => pre' = [] ∧ NS U) (fun cd pre' U => cd = .exit 4 ∧ NS U) (fun _ A B row h hg hr => ⟨h.1, NSO.out A B row h.2 hg hr⟩) (fun _ _ A B row h hg hr => ⟨h.1, NSO.out A B row h.2 hg hr⟩)
            ⟨rfl, NS5.out⟩
            (fun T y => (((T.setIfInBounds 121 (.int .i64 (y.at_ : Int))).setIfInBounds 122 y.sl.val).setIfInBounds 16 (.int .i64 (y.at_ : Int))).setIfInBounds 17 y.sl.val) ?assignN ?bodyN ?doneN ?stopN
          case assignN =>
            intro lp x W K hK
            simp only [Pce.vals]
            gi_wp2
            exact hK
          case stopN =>
            rintro cd pre' U hSp ⟨rfl, hns⟩
            have NSU := Lib.hid hns
            clear hns
            gi_wp2
            exact NSE.out U NSU.out
          case doneN =>
            rintro xs U hS ⟨rfl, _⟩
            exfalso
            have h1 : all = [] := by rw [HALL.out, ← hS]; rfl
            have h2 := HPK.out
            rw [h1] at h2
            have : k = 0 := h2.symm
            omega
          case bodyN =>
            rintro lp2 pre2 ⟨at2, ⟨sa2, sm2, sc2⟩, pb2⟩ U0 U hlp2 hrec2 ⟨rfl, _⟩ ⟨_, hns⟩ hkc2 hok2
            obtain ⟨rr2, hrr2⟩ := hok2.at_
            rw [← HALL.out] at hrr2
            have hk0 : 0 < k := by omega
            have hP0 : 0 < (plB all).length := by rw [HPK.out]; exact hk0
            have hp2 : pb2 = (plB all)[0] := by
              have h : (plB all)[0]? = some pb2 := by rw [plB, ← hrr2]; rfl
              rw [List.getElem?_eq_getElem hP0] at h
              injection h with h
              exact h.symm
            have ha2 : at2 = 0 := by
              have h1 : (all)[0]? = some (at2, pb2) := by rw [← hrr2]; rfl
              rw [HALL.out] at h1
              exact chL_first z l at2 pb2 h1
            subst ha2
            have hown2 : BOwn U U0.heap.size sa2 sm2 sc2 pb2 := hok2.own
            have hsm2 : pb2.length = sm2 := BOwn.len hown2
            have hpb2 : pb2.length ≤ 4000 := by have := HPB.out pb2 (by rw [hp2]; exact List.getElem_mem _); omega
            have hcu := NSC.out U hns
            obtain ⟨hl1, hl2, hl3⟩ := HLIE.out U hcu
            have hL0 : 0 < Lp.length := by rw [hl2]; exact hP0
            obtain ⟨qb2, qo2, hqa2, hq0⟩ := hl1 0 (by rw [List.length_map]; exact hL0)
            obtain ⟨⟨ya, yn, yc⟩, hs2⟩ : ∃ s, s = Lp[0] := ⟨_, rfl⟩
            have hcq2 : U.cell? ⟨qb2, qo2, none⟩ = some (.slice ya yn yc) := by rw [Nat.add_zero] at hq0; rw [hq0, List.getElem_map, ← hs2]; rfl
            obtain ⟨hyl, hyn⟩ := hl3 0 hL0 hP0
            rw [← hs2, ← hp2] at hyl hyn
            simp only at hyl hyn
            have HSAME2 := Lib.hid (same_yes sa2 ya sc2 yc sm2 yn pb2 U hown2.lies hyl hsm2 hyn.symm (by unfold maxLen; omega))
            have c8 := Row.cell (R8.out.ch hcu (by omega)) 0
            simp at c8
            rw [hqa2] at c8
            have hk0d : decide ((0 : Int) < (k : Int)) = true := decide_eq_true (by omega)
            have hk0e : decide (0 < k) = true := decide_eq_true hk0
            have NSU := Lib.hid hns
            clear hl1 hl2 hl3 hq0 hyl hyn hs2 hp2 hrr2 hok2 hown2 hkc2 hrec2 hlp2 hcu hns hsm2 hqa2
            simp only [List.setIfInBounds_toArray, List.set_cons_zero, List.set_cons_succ, Sl.val]
            rw [show ((0 : Nat) : Int) = 0 from rfl]
            gi_wp2_with ((with_reducible refine And.intro ?hh (And.intro ?hh2 ?_)); (case hh => exact trivial); (case hh2 => exact rfl); gi_at_call 19; refine (CallsIn.inRound lp2 (calls_wide (l := lp) HSAME2.out)).mono ?_; rintro e U1 ⟨rfl, q5, hq5⟩; have GU1 := Lib.hid (show U.grownBy U1 none from hq5 ▸ grownBy_drewN _ _ _); clear hq5 q5)
            exact ⟨KeepsFrom.ch (Ch.ofNone GU1.out (fun _ => False)) (fun _ h => h.elim), rfl, NSO.out U U1 none NSU.out GU1.out (fun r e => by cases e)⟩
        · have h2d : ((np1 : Int) == 2) = false := by rw [beq_eq_false_iff_ne]; omega
          gi_wp2
          exact ⟨KeepsFrom.ch HCT.out HCELL.out, KeptS.ch HCT.out (fun y hs hS => by have h1 := (HCKB.out y hs).2; have h2 := HLOW.out y hS; omega), HFIN.out⟩
      case stop2 =>
        rintro D cd pre W hD hS h hK
        exact h.elim
      case done2 =>
        rintro D2 xs W hD hS ⟨x, r12, r13, cs, hch, hz, hds⟩ hK
        have hxl : xs.length = k := by
          have h1 := congrArg List.length hS
          have h2 := HPK.out
          rw [← HALL.out, List.length_map] at h1
          rw [plB, List.length_map] at h2
          omega
        have hpl : xs.length ≤ 4000 := by omega
        clear hS
        have RR := Lib.hid r12
        have CS := Lib.hid cs
        have HC := Lib.hid hch
        have HKD := Lib.hid hK
        have HDS := Lib.hid hds
        have HLT2 := Lib.hid (show ∀ D' ∈ ([D1, D0] : List Nat), D' < D2 from fun D' h => by have := (hds D' h).1; omega)
        have HDW2 := Lib.hid (show w15.heap.size ≤ D2 from by have := HCV.out.size; omega)
        have c12 := Row.cell r12 0
        have c13 := Row.cell r13 0
        have c8 := Row.cell (R8.out.ch hch (by omega)) 0
        simp at c12 c13 c8
        have HPL2 := Lib.hid hpl
        clear r12 r13 cs hch hK hds hpl hz hD
        rw [hxl] at c13
        have hkk : ((k : Int) != (k : Int)) = false := by simp
        go_wp2_with (first
          | (refine wpList_fresh1 rfl rfl rfl rfl rfl hii hiiz hiis rfl (.int .i64 2) rfl rfl rfl ?_; intro v2 hs g hr; have GV2 := Lib.hid g; have RV := Lib.hid (show Row v2 W.heap.size 3 #[.int .i64 2] from hr); have cv := Row.cell RV.out 0; simp at cv; clear hs g hr c12 c13 c8)
          | (refine wpList_put1 rfl rfl W.heap.size rfl (.int .i64 3) rfl RV.out (by kernel_rfl) rfl ?_; intro v3 hs g hr; have GV3 := Lib.hid g; have RV3 := Lib.hid (show Row v3 W.heap.size 3 #[.int .i64 3] from hr); clear hs g hr cv))
        clear hkk
        obtain ⟨b12, hb12⟩ : ∃ b12, b12 = W.heap.size := ⟨_, rfl⟩
        have q12 : bc < b12 := by rw [hb12]; exact CS.out.1.lt
        rw [← hb12] at RV RV3 GV3 ⊢
        clear hb12
        have CV3 : Ch (fun y => y = b12) v2 v3 := Ch.ofSome GV3.out rfl
        have cs2 := CS.out.nc (b0 := 0) GV2.out (fun r e => by cases e)
        replace CS := Lib.hid (cs2.ch CV3 (by omega) (fun y hy e => by omega) (row_in RV.out cs2.2.1.outer (by decide)) (row_in RV.out cs2.2.2.1 (by decide)) (fun i hi h => row_in RV.out (cs2.2.1.inner i hi (by have := cs2.2.1.len; omega)) (by decide) h))
        replace HC := Lib.hid ((HC.out.then GV2.out).trans (CV3.mono (fun y _ h => by omega)) (fun _ _ h => h))
        have hdn : ∀ D' : Nat, W.heap[D']? = some (.deferred (some [])) → v3.heap[D']? = some (.deferred (some [])) := fun D' h => by
          have h2 := dds1 h GV2.out
          exact (CV3.block D' (Array.getElem?_eq_some_iff.1 h2).1 (fun e => by
            subst e
            have h3 : v2.heap[D']? = _ := RV.out
            rw [h2] at h3
            cases h3)).trans h2
        have HDS' := Lib.hid (show ∀ D' ∈ ([D2, D1, D0] : List Nat), w15.heap.size ≤ D' ∧ v3.heap[D']? = some (.deferred (some [])) from fun D' h => by
          rcases List.mem_cons.1 h with rfl | h
          · exact ⟨HDW2.out, hdn _ HKD.out⟩
          · exact ⟨(HDO.out D' h), hdn _ (HDS.out D' h).2⟩)
        have RR := RV3
        have HDS := HDS'
        obtain ⟨t', ht'⟩ : ∃ t', t' = t ++ xs.map Pce.b := ⟨_, rfl⟩
        have htl : t'.length ≤ 16000 := by rw [ht', List.length_append, List.length_map]; have h1 := HTL.out; have h2 := HPL2.out; omega
        rw [← ht'] at CS
        obtain ⟨t, htt⟩ : ∃ t, t = t' := ⟨_, rfl⟩
        rw [← htt] at CS htl
        have HTL := Lib.hid htl
        clear htl ht' htt hdn CV3 cs2 GV2 GV3 RV HKD HDS'
        rw [rounds_succ]
        obtain ⟨⟨ga, gc, Lg, wa, wc, Lw⟩, hxe⟩ : ∃ y, y = x := ⟨_, rfl⟩
        have cs := CS.out
        rw [← hxe] at cs
        obtain ⟨rc, lg, sw, wok, dj⟩ := cs
        simp only at rc lg sw wok
        obtain ⟨m, hm⟩ : ∃ m, m = t.length := ⟨_, rfl⟩
        rw [← hm] at rc lg sw
        have hm4 : m ≤ 16000 := by rw [hm]; exact HTL.out
        have htb : ∀ b ∈ t, b.length ≤ 4000 := fun b hb => by
          obtain ⟨i, hi, rfl⟩ := List.getElem_of_mem hb
          obtain ⟨j, hj, hj', _, e⟩ := wok.2 i (by rw [wok.1]; exact hi) hi
          rw [e]
          have := HPB.out _ (List.getElem_mem hj')
          omega
        have hwl := want_lies sw (HLIE.out v3 HC.out) wok
        have hsl := sameLists_n ga wa gc wc m m Lg Lw t t v3 lg.lies hwl hm.symm hm.symm (by unfold maxLen; omega) (fun b hb => by have := htb b hb; unfold maxLen; omega)
        rw [show decide (t = t) = true from decide_eq_true rfl] at hsl
        have HSL := Lib.hid hsl
        clear hsl
        have cg := Row.cell rc 0
        have cw := Row.cell rc 1
        simp at cg cw
        have LG := Lib.hid lg
        have RC := Lib.hid rc
        have HTB := Lib.hid htb
        have HMM := Lib.hid hm
        clear hxe rc lg sw wok dj hm htb hwl CS
        have c12 := Row.cell RR.out 0
        simp at c12
        go_wp2_with fail
        clear c12
        refine HSL.out.mono ?_
        rintro e v4 ⟨rfl, q4, hq4⟩
        have G4 := Lib.hid (show v3.grownBy v4 none from hq4 ▸ grownBy_drewN _ _ _)
        have cg4 := Row.cell (RC.out.grown G4.out) 0
        simp at cg4
        clear hq4 q4 cg cw HSL
        have LG4 := Lib.hid (LG.out.grown G4.out)
        have hall : ∀ q ∈ Lg, ∃ u, BOwn v4 (bc + 1) q.a q.n q.c u ∧ q.n ≤ 100000000 := fun q hq => by
          obtain ⟨i, hi, rfl⟩ := List.getElem_of_mem hq
          have hl := LG4.out.len
          have h1 := LG4.out.inner i hi (by omega)
          have h2 := h1.len
          have h3 := HTB.out (t[i]'(by omega)) (List.getElem_mem _)
          exact ⟨_, h1, by omega⟩
        have hst : TSt1 (bc + 1) ga gc Lg v4 0 0 v4 := tst1_own LG4.out.outer (fun j hj => by
          obtain ⟨u, h1, _⟩ := hall _ (List.getElem_mem hj)
          exact ⟨u, h1⟩)
        have HAP := Lib.hid (apartT_n (bc + 1) ga gc m Lg v4 hst (by have := RC.out.lt; have := G4.out.size; omega) LG4.out.apart (by rw [LG4.out.len]; exact HMM.out.symm) (by omega) (fun j hj => (hall _ (List.getElem_mem hj)).choose_spec.2))
        have HALLQ := Lib.hid hall
        clear hst hall
        go_wp2_with fail
        refine HAP.out.mono ?_
        rintro e v5 ⟨rfl, hbel⟩
        have HBEL := Lib.hid hbel
        have GW4 := Lib.hid (show w.grownBy v4 none from grownBy_trans (Ch.fresh G15.out HC.out (fun y hy h => by omega)) G4.out)
        have GW5 := Lib.hid (grown_below GW4.out hbel.toBelow (by omega))
        have R64 := (R6.out.ch HC.out (by omega)).grown G4.out
        have R65 := Lib.hid (show Row v5 b6 4 #[.bool false] from (hbel.toBelow.block b6 (by omega)).trans R64)
        have HD5 := Lib.hid (show ∀ D ∈ ([D2, D1, D0] : List Nat), w15.heap.size ≤ D ∧ v5.heap[D]? = some (.deferred (some [])) from fun D hD => by
          have h4 := dds1 (HDS.out D hD).2 G4.out
          refine ⟨(HDS.out D hD).1, (hbel.off D (.inr ⟨(Array.getElem?_eq_some_iff.1 h4).1, fun j hj e => ?_⟩)).trans h4⟩
          obtain ⟨u, h1, _⟩ := HALLQ.out _ (List.getElem_mem hj)
          obtain ⟨hc, ha⟩ := BOwn.blk h1 e
          obtain ⟨cs, ty, fr, h2⟩ := Own.cellsAt h1 (g := D) ⟨hc, ha⟩
          rw [h4] at h2
          cases h2)
        clear hbel R64 cg4 HAP
        go_wp2_with (refine wpList_put1 rfl rfl b6 rfl (.bool true) rfl R65.out sizeBO rfl ?_; intro v6 hs g hr; have G6 := Lib.hid g; have R66 := Lib.hid (show Row v6 b6 4 #[.bool true] from hr); clear hs g hr)
        have GW6 : w.grownBy v6 none := grownBy_old GW5.out G6.out (by omega)
        have hd : ∀ D ∈ ([D2, D1, D0] : List Nat), D ≠ b6 ∧ v6.heap[D]? = some (.deferred (some [])) := fun D hD => by
          have h1 := (HD5.out D hD).1
          have h2 := HD5.out D hD
          refine ⟨by omega, (G6.out.block D (Array.getElem?_eq_some_iff.1 h2.2).1 (fun e => by injection e with e; omega)).trans h2.2⟩
        have hl1 := HLT1.out D0 (by simp)
        have hl2 := HLT2.out D0 (by simp)
        have hl3 := HLT2.out D1 (by simp)
        have e2 := hd D2 (by simp)
        have e1 := hd D1 (by simp)
        have e0 := hd D0 (by simp)
        have g2 := grownBy_putObj' v6 D2 (.deferred none)
        obtain ⟨x2, hx2⟩ : ∃ x2, x2 = v6.putObj D2 (.deferred none) := ⟨_, rfl⟩
        have e1' : x2.heap[D1]? = some (.deferred (some [])) := by rw [hx2]; exact (g2.block D1 (Array.getElem?_eq_some_iff.1 e1.2).1 (fun e => by injection e with e; omega)).trans e1.2
        have e0' : x2.heap[D0]? = some (.deferred (some [])) := by rw [hx2]; exact (g2.block D0 (Array.getElem?_eq_some_iff.1 e0.2).1 (fun e => by injection e with e; omega)).trans e0.2
        rw [← hx2] at g2
        have g1 := grownBy_putObj' x2 D1 (.deferred none)
        obtain ⟨x1, hx1⟩ : ∃ x1, x1 = x2.putObj D1 (.deferred none) := ⟨_, rfl⟩
        have e0'' : x1.heap[D0]? = some (.deferred (some [])) := by rw [hx1]; exact (g1.block D0 (Array.getElem?_eq_some_iff.1 e0').1 (fun e => by injection e with e; omega)).trans e0'
        rw [← hx1] at g1
        have g0 := grownBy_putObj' x1 D0 (.deferred none)
        have hD0 := (HD5.out D0 (by simp)).1
        have hD1 := (HD5.out D1 (by simp)).1
        have hD2 := (HD5.out D2 (by simp)).1
        have hww := G15.out.size
        have hrB := ((R66.out.grownNe g2 (by omega)).grownNe g1 (by omega)).grownNe g0 (by omega)
        have hgZ := grownBy_old (grownBy_old (grownBy_old GW6 g2 (by omega)) g1 (by omega)) g0 (by omega)
        refine ⟨by simp, .inl ⟨_, _, rfl, run_takeDeferred e2.2, ?_⟩⟩
        rw [← hx2]
        refine ⟨by simp, .inl ⟨_, _, rfl, run_takeDeferred e1', ?_⟩⟩
        rw [← hx1]
        refine ⟨by simp, .inl ⟨_, _, rfl, run_takeDeferred e0'', ?_⟩⟩
        exact ⟨_, results_cell1 rfl _ _ b6 _ rfl hrB, rfl, hgZ⟩
    case done1 =>
      rintro D1 xs W hD hS ⟨x, r12, r13, cs, hch, hz, hds⟩ hK
      have hxl : xs.length = k := by
        have h1 := congrArg List.length hS
        have h2 := HPK.out
        rw [← HALL.out, List.length_map] at h1
        rw [plB, List.length_map] at h2
        omega
      have hpl : xs.length ≤ 4000 := by omega
      clear hS
      have RR := Lib.hid r12
      have CS := Lib.hid cs
      have HC := Lib.hid hch
      have HKD := Lib.hid hK
      have HDS := Lib.hid hds
      have HLT1 := Lib.hid (show ∀ D' ∈ ([D0] : List Nat), D' < D1 from fun D' h => by have := (hds D' h).1; omega)
      have HDW1 := Lib.hid (show w15.heap.size ≤ D1 from by have := HCV.out.size; omega)
      have c12 := Row.cell r12 0
      have c13 := Row.cell r13 0
      have c8 := Row.cell (R8.out.ch hch (by omega)) 0
      simp at c12 c13 c8
      have HPL1 := Lib.hid hpl
      clear r12 r13 cs hch hK hds hpl hz hD
      go_wp2_with (first
        | (refine wpList_fresh1 rfl rfl rfl rfl rfl hii hiiz hiis rfl (.int .i64 1) rfl rfl rfl ?_; intro v2 hs g hr; have GV2 := Lib.hid g; have RV := Lib.hid (show Row v2 W.heap.size 3 #[.int .i64 1] from hr); have cv := Row.cell RV.out 0; simp at cv; clear hs g hr c12 c13 c8)
        | (refine wpList_put1 rfl rfl W.heap.size rfl (.int .i64 2) rfl RV.out (by kernel_rfl) rfl ?_; intro v3 hs g hr; have GV3 := Lib.hid g; have RV3 := Lib.hid (show Row v3 W.heap.size 3 #[.int .i64 2] from hr); clear hs g hr cv))
      skip
      obtain ⟨b12, hb12⟩ : ∃ b12, b12 = W.heap.size := ⟨_, rfl⟩
      have q12 : bc < b12 := by rw [hb12]; exact CS.out.1.lt
      rw [← hb12] at RV RV3 GV3 ⊢
      clear hb12
      have CV3 : Ch (fun y => y = b12) v2 v3 := Ch.ofSome GV3.out rfl
      have cs2 := CS.out.nc (b0 := 0) GV2.out (fun r e => by cases e)
      replace CS := Lib.hid (cs2.ch CV3 (by omega) (fun y hy e => by omega) (row_in RV.out cs2.2.1.outer (by decide)) (row_in RV.out cs2.2.2.1 (by decide)) (fun i hi h => row_in RV.out (cs2.2.1.inner i hi (by have := cs2.2.1.len; omega)) (by decide) h))
      replace HC := Lib.hid ((HC.out.then GV2.out).trans (CV3.mono (fun y _ h => by omega)) (fun _ _ h => h))
      have hdn : ∀ D' : Nat, W.heap[D']? = some (.deferred (some [])) → v3.heap[D']? = some (.deferred (some [])) := fun D' h => by
        have h2 := dds1 h GV2.out
        exact (CV3.block D' (Array.getElem?_eq_some_iff.1 h2).1 (fun e => by
          subst e
          have h3 : v2.heap[D']? = _ := RV.out
          rw [h2] at h3
          cases h3)).trans h2
      have HDS' := Lib.hid (show ∀ D' ∈ ([D1, D0] : List Nat), w15.heap.size ≤ D' ∧ v3.heap[D']? = some (.deferred (some [])) from fun D' h => by
        rcases List.mem_cons.1 h with rfl | h
        · exact ⟨HDW1.out, hdn _ HKD.out⟩
        · exact ⟨(HDO.out D' h), hdn _ (HDS.out D' h).2⟩)
      have RR := RV3
      have HDS := HDS'
      obtain ⟨t', ht'⟩ : ∃ t', t' = t ++ xs.map Pce.b := ⟨_, rfl⟩
      have htl : t'.length ≤ 12000 := by rw [ht', List.length_append, List.length_map]; have h1 := HTL.out; have h2 := HPL1.out; omega
      rw [← ht'] at CS
      obtain ⟨t, htt⟩ : ∃ t, t = t' := ⟨_, rfl⟩
      rw [← htt] at CS htl
      have HTL := Lib.hid htl
      clear htl ht' htt hdn CV3 cs2 GV2 GV3 RV HKD HDS'
      rw [rounds_succ]
      have c12 := Row.cell RR.out 0
      have c10 := Row.cell (R10.out.ch HC.out (by omega)) 0
      simp at c12 c10
      go_wp2_with (refine wpList_fresh1 rfl rfl rfl rfl rfl hii hiiz hiis rfl (.int .i64 0) rfl rfl rfl ?_; intro v1 hs g hr; have GV := Lib.hid g; have RN := Lib.hid (show Row v1 v3.heap.size 3 #[.int .i64 0] from hr); have c10' := Row.cell ((R10.out.ch HC.out (by omega)).grown g) 0; simp at c10'; clear hs g hr c10 c12)
      clear c10'
      obtain ⟨b13, hb13⟩ : ∃ b13, b13 = v3.heap.size := ⟨_, rfl⟩
      obtain ⟨hi, hhi⟩ : ∃ hi, hi = v1.heap.size := ⟨_, rfl⟩
      have q13 : b12 < b13 := by rw [hb13]; exact RR.out.lt
      rw [← hb13] at RN ⊢
      have qhi : b13 < hi := by rw [hhi]; exact RN.out.lt
      have HHI := Lib.hid hhi
      clear hb13 hhi
      replace RR := Lib.hid (RR.out.grown GV.out)
      replace HC := Lib.hid (HC.out.then GV.out)
      replace CS := Lib.hid (CS.out.nc (b0 := 0) GV.out (fun r e => by cases e))
      replace HDS := Lib.hid (show ∀ D ∈ ([D1, D0] : List Nat), w15.heap.size ≤ D ∧ D < hi ∧ v1.heap[D]? = some (.deferred (some [])) from fun D hD => ⟨(HDS.out D hD).1, (by have h := dds1 (HDS.out D hD).2 GV.out; rw [HHI.out]; exact (Array.getElem?_eq_some_iff.1 h).1), dds1 (HDS.out D hD).2 GV.out⟩)
      have HCV := Lib.hid HC.out
      have HDO := Lib.hid (show ∀ D ∈ ([D1, D0] : List Nat), w15.heap.size ≤ D from fun D hD => (HDS.out D hD).1)
      clear GV
      have hhi1 : hi ≤ v1.heap.size := by rw [HHI.out]; exact Nat.le_refl _
      have hhi2 : v1.heap.size ≤ hi := by rw [HHI.out]; exact Nat.le_refl _
      refine (wpIn_wide (n := 3)).1 ?_
      refine wpIn_rangeOkL (F := Fence.wide) (n := 3) rfl (by omega) (gf := 61) (lb := #[.pointer (some ⟨b1, 0, none⟩), .pointer (some ⟨b2, 0, none⟩)]) rfl trivial (enters_of Try.func61 (by kernel_rfl) rfl)
        (chunks1_in 2 _ b1 b2 z ao n co l v1 (HCK.out v1 HC.out) (by omega)) KeptS.trans (fun W l o o' hl _ _ _ => KeptS.put W l o' (fun hs => by have := (HCKB.out _ hs).2; omega))
        (fun pre x W0 W l o o' h hl ho => h.put l o' hl ho) (Below.refl _ _) (fun _ => rfl)
        (LwI w15 b12 b13 bc hi 2 [D1, D0] Lp (plB all) t) (fun _ _ _ => False) (LwI.own (by omega) (by omega)) (fun _ _ _ _ _ hs _ _ => hs.elim)
        ⟨x, RR.out, RN.out, by simpa using CS.out, HC.out, by omega, fun D hD => (HDS.out D hD).2⟩
        (fun T y => (((T.setIfInBounds 66 (.int .i64 (y.at_ : Int))).setIfInBounds 67 y.sl.val).setIfInBounds 14 (.int .i64 (y.at_ : Int))).setIfInBounds 15 y.sl.val) ?assign2 ?body2 ?done2 ?stop2
      case assign2 =>
        intro lp x W K hK
        simp only [Pce.vals]
        gi_wp2
        exact hK
      case body2 =>
        rintro lp pre ⟨at_, ⟨sa, sm, sc⟩, pb⟩ W0 W hlp hrec hI0 hI hkc hok
        obtain ⟨⟨ga, gc, Lg, wa, wc, Lw⟩, r12, r13, ⟨rc, lg0, sw0, wok, dj⟩, _, hz0, _⟩ := hI0
        obtain ⟨_, _, _, _, hchW, hzW, hdW⟩ := hI
        simp only at rc lg0 sw0 wok dj
        have rr := hok.at_
        rw [← HALL.out] at rr
        obtain ⟨rr, hrr⟩ := rr
        obtain ⟨np, hnp⟩ : ∃ np, np = pre.length := ⟨_, rfl⟩
        have hpk := HPK.out
        have hal : all.length = k := by rw [← hpk, plB, List.length_map]
        have hnk : np < k := by rw [← hal, ← hrr, hnp]; simp
        have hPn : np < (plB all).length := by rw [hpk]; exact hnk
        have hPe : pb = (plB all)[np] := by
          have h : (plB all)[np]? = some pb := by
            rw [plB, ← hrr, List.map_append, List.getElem?_append_right (by simp [hnp])]
            simp [hnp, Pce.pr]
          rw [List.getElem?_eq_getElem hPn] at h
          injection h with h
          exact h.symm
        have hat : (plN all).getD np 0 = (at_ : Int) := by
          rw [List.getD_eq_getElem?_getD, plN, ← hrr, List.map_append, List.getElem?_append_right (by simp [hnp])]
          simp [hnp, Pce.pr]
        have hat0 : np = 0 → at_ = 0 := fun h0 => by
          obtain rfl : pre = [] := List.eq_nil_of_length_eq_zero (by omega)
          have h1 : (all)[0]? = some (at_, pb) := by rw [← hrr]; rfl
          rw [HALL.out] at h1
          exact chL_first z l at_ pb h1
        have hown : BOwn W W0.heap.size sa sm sc pb := hok.own
        have hsm : pb.length = sm := BOwn.len hown
        have hpb4 : pb.length ≤ 4000 := by have := HPB.out pb (by rw [hPe]; exact List.getElem_mem _); omega
        obtain ⟨hl1, hl2, hl3⟩ := HLIE.out W hchW
        have hLn : np < Lp.length := by rw [hl2]; exact hPn
        obtain ⟨qb, qo, hqa, hq0⟩ := hl1 np (by rw [List.length_map]; exact hLn)
        clear hq0
        obtain ⟨⟨xa, xn, xc⟩, hs⟩ : ∃ s, s = Lp[np] := ⟨_, rfl⟩
        have hqc : ∀ u, Ch (fun y => bc ≤ y) w15 u → u.cell? ⟨qb, qo + np, none⟩ = some (.slice xa xn xc) := fun u hu => by
          obtain ⟨b', o', e, hc⟩ := (HLIE.out u hu).1 np (by rw [List.length_map]; exact hLn)
          rw [hqa] at e
          injection e with e; injection e with e1 e2
          subst e1; subst e2
          rw [hc, List.getElem_map, ← hs]
          rfl
        have HQC := Lib.hid hqc
        have hcq := hqc W hchW
        obtain ⟨hxl, hxn⟩ := hl3 np hLn hPn
        rw [← hs, ← hPe] at hxl hxn
        simp only at hxl hxn
        obtain ⟨ib2, io2, hpa, hpc⟩ := ints_cells (HINT.out W hchW) (by rw [plN, List.length_map, hal]; omega)
        have hcp := hpc np (by rw [plN, List.length_map, hal]; exact hnk)
        rw [hat] at hcp
        rw [← hnp] at r13
        obtain ⟨T, hT⟩ : ∃ T, T = t ++ pre.map Pce.b := ⟨_, rfl⟩
        obtain ⟨m, hm⟩ : ∃ m, m = T.length := ⟨_, rfl⟩
        rw [← hT] at rc lg0 sw0 wok
        rw [← hm] at rc lg0 sw0
        have hm4 : m ≤ 16100 := by rw [hm, hT, List.length_append, List.length_map, ← hnp]; have := HTL.out; omega
        have HSAME := Lib.hid (same_yes sa xa sc xc sm xn pb W hown.lies hxl hsm hxn.symm (by unfold maxLen; omega))
        have LG0 := Lib.hid lg0
        have LG := Lib.hid (lg0.keptC hkc)
        have SW := Lib.hid (show SOwn W (bc + 1) wa m wc Lw from Own.keptC sw0 hkc)
        have RC := Lib.hid (rc.keptC hkc)
        have Q12 := Lib.hid (r12.keptC hkc)
        have Q13 := Lib.hid (r13.keptC hkc)
        have HOWN := Lib.hid hown
        have HCW := Lib.hid hchW
        have HZ0 := Lib.hid hz0
        have HKZ := Lib.hid hkc.size
        have HDD := Lib.hid hdW
        have HWOK := Lib.hid wok
        have DJ := Lib.hid dj
        have HNP := Lib.hid hnp
        have HSX := Lib.hid hs
        have HPE := Lib.hid hPe
        have HTT := Lib.hid hT
        have HM := Lib.hid hm
        have HLP := Lib.hid hlp
        have HREC := Lib.hid hrec
        have HQA := Lib.hid hqa
        have HAT0 := Lib.hid hat0
        have c13 := Row.cell Q13.out 0
        have c8 := Row.cell (R8.out.ch hchW (by omega)) 0
        have c7 := Row.cell (R7.out.ch hchW (by omega)) 0
        simp at c13 c8 c7
        rw [hqa] at c8
        rw [hpa] at c7
        have hge : decide ((k : Int) ≤ (np : Int)) = false := decide_eq_false (by omega)
        have hge2 : decide (k ≤ np) = false := decide_eq_false (by omega)
        have hne : ((at_ : Int) != (at_ : Int)) = false := by simp
        clear hrr hok hown hl1 hl2 hl3 hqc hxl hpc lg0 sw0 rc r12 r13 hchW hz0 hkc wok dj hnp hs hPe hT hm hat hxn rr hqa hpa hal hpk hdW hlp hrec hzW hat0
        simp only [List.setIfInBounds_toArray, List.set_cons_zero, List.set_cons_succ, Sl.val]
        refine wpIn_block ?_
        refine wpIn_seq_k fun K1 hK1 => ?_
        have HK1 := Lib.hid hK1
        clear hK1
        gi_wp2_with ((with_reducible refine And.intro ?hh ?_); (case hh => exact trivial); gi_at_call 19; refine (calls_wide HSAME.out).mono ?_; rintro e W1 ⟨rfl, q5, hq5⟩; have GW1 := Lib.hid (show W.grownBy W1 none from hq5 ▸ grownBy_drewN _ _ _); clear hq5 q5)
        refine HK1.out _ _ ?_
        clear HK1 c13 c8 c7 hcp hcq hge hge2 hne
        have LG1 := Lib.hid (LG.out.grown GW1.out)
        have OWN1 := Lib.hid (BOwn.grown HOWN.out GW1.out)
        have SW1 := Lib.hid (show SOwn W1 (bc + 1) wa m wc Lw from Own.grownNone SW.out GW1.out)
        have RC1 := Lib.hid (RC.out.grown GW1.out)
        have Q121 := Lib.hid (Q12.out.grown GW1.out)
        have Q131 := Lib.hid (Q13.out.grown GW1.out)
        have HC1 := Lib.hid (HCW.out.then GW1.out)
        obtain ⟨np1, hnp1⟩ : ∃ np1, np1 = np + 1 := ⟨_, rfl⟩
        have hw1 : IntKind.i64.wrap ((np : Int) + 1) = (np1 : Int) := by rw [IntWalk.i64_in _ (by omega)]; omega
        have HNP1 := Lib.hid hnp1
        have c13 := Row.cell Q131.out 0
        simp at c13
        clear hnp1
        refine wpIn_seq ?_
        refine wpIn_regionP (by kernel_rfl) ?_
        go_wp2_with (refine wpList_put1 rfl rfl b13 rfl (.int .i64 (np1 : Int)) rfl Q131.out (by kernel_rfl) rfl ?_; intro W2 hs g hr; have Q132 := Lib.hid (show Row W2 b13 3 #[.int .i64 (np1 : Int)] from hr); have C2 := Lib.hid (Ch.ofSome (S := fun y => y = b13) g rfl); clear hs g hr)
        refine ⟨rfl, ?_⟩
        show Code.wpIn _ _ _ _ _ _ _
        clear c13 hw1
        have LG2 := Lib.hid (LG1.out.chS C2.out (fun y hy h => by subst h; exact row_in Q131.out LG1.out.outer (by decide) hy) (fun i hi y hy h => by subst h; exact row_in Q131.out (LG1.out.inner i hi (by have := LG1.out.len; omega)) (by decide) hy))
        have OWN2 := Lib.hid (show BOwn W2 W0.heap.size sa sm sc pb from Own.ch OWN1.out C2.out (fun h0 y e h => by subst h; exact row_in Q131.out OWN1.out (by decide) ⟨h0, e⟩))
        have SW2 := Lib.hid (show SOwn W2 (bc + 1) wa m wc Lw from Own.ch SW1.out C2.out (fun h0 y e h => by subst h; exact row_in Q131.out SW1.out (by decide) ⟨h0, e⟩))
        have RC2 := Lib.hid (RC1.out.ch C2.out (by omega))
        have Q122 := Lib.hid (Q121.out.ch C2.out (by omega))
        have HC2 := Lib.hid (HC1.out.trans (C2.out.mono (fun y _ h => by omega)) (fun _ _ h => h))
        have OG2 := Lib.hid (show Own W2 (bc + 1) 22 1 ga m gc (Lg.map Sl.val) from LG2.out.outer)
        have ZB2 := Lib.hid (show bc + 1 ≤ W2.heap.size from RC2.out.lt)
        have cg := Row.cell RC2.out 0
        simp at cg
        refine wpIn_seq ?_
        refine wpIn_regionP (by kernel_rfl) ?_
        go_wp2_with (first
          | ((with_reducible show wpList _ _ _ ({ dst := some 95, op := _, type := _, pos := _, after := _, guard := _ } :: _) _ _); refine wpList_push elS rfl (.tmp 92) (.tmp 94) rfl rfl OG2.out (.slice sa sm sc) rfl rfl (by unfold maxLen; omega) (by omega) ZB2.out ?_; intro g3 cp3 W3 hown hgr; have O3 := Lib.hid hown; have GR3 := Lib.hid hgr; have RC3 := Lib.hid (RC2.out.ch hgr.ch (row_in RC2.out OG2.out (by decide))); have cg3 := Row.cell RC3.out 0; have fg3 := Row.frozen RC3.out 0; simp at cg3; clear hown hgr cg)
          | ((with_reducible show wpList _ _ _ ({ dst := none, op := _, type := _, pos := _, after := _, guard := _ } :: _) _ _); refine wpList_skipC rfl (w1 := W3.setCell ⟨bc, 0, none⟩ (.slice (some ⟨g3, 0, none⟩) (m + 1) cp3)) (by go_simp) ?_))
        obtain ⟨W4, hW4⟩ : ∃ W4, W4 = W3.setCell ⟨bc, 0, none⟩ (.slice (some ⟨g3, 0, none⟩) (m + 1) cp3) := ⟨_, rfl⟩
        rw [← hW4]
        have hg4 : W3.grownBy W4 (some bc) := hW4 ▸ grownBy_setCell _ _ _ _
        have RC4 := Lib.hid (show Row W4 bc 33 #[.slice (some ⟨g3, 0, none⟩) (m + 1) cp3, .slice wa m wc] from hW4 ▸ Row.setc RC3.out 0 _)
        refine ⟨rfl, ?_⟩
        show Code.wpIn _ _ _ _ _ _ _
        have hb3 := row_in RC3.out O3.out (by decide)
        have O4 := Lib.hid (Own.ch O3.out (Ch.ofSome (S := fun y => y = bc) hg4 rfl) (fun h0 y e h => by subst h; exact hb3 ⟨h0, e⟩))
        have C4 := Lib.hid (show Ch (fun y => In ga gc y ∨ y = bc) W2 W4 from (GR3.out.ch.mono (fun _ _ h => .inl h)).trans (Ch.ofSome (S := fun y => In ga gc y ∨ y = bc) hg4 (.inr rfl)) (fun _ _ h => h))
        have I4 := Lib.hid (show ∀ y, In (some ⟨g3, 0, none⟩) cp3 y → In ga gc y ∨ W2.heap.size ≤ y from fun y hy => GR3.out.inn hy)
        clear cg3 fg3 hW4 hg4 hb3 RC3
        have n4 : ∀ y cs (T' : TypeId), Row W2 y T' cs → T' ≠ 22 → y ≠ bc → ¬ (In ga gc y ∨ y = bc) := fun y cs T' hr hT h h2 => h2.elim (row_in hr OG2.out hT) h
        have Q124 := Lib.hid (Q122.out.ch C4.out (n4 _ _ _ Q122.out (by decide) (by omega)))
        have Q134 := Lib.hid (Q132.out.ch C4.out (n4 _ _ _ Q132.out (by decide) (by omega)))
        have LG4 := Lib.hid (LIs.pushR LG0.out (by have := HZ0.out; omega) LG2.out OWN2.out (by omega) C4.out O4.out)
        have SW4 := Lib.hid (show SOwn W4 (bc + 1) wa m wc Lw from Own.ch SW2.out C4.out (fun h0 y e h => by
          rcases h with h | rfl
          · exact DJ.out y h ⟨h0, e⟩
          · have := (Own.inn SW2.out (g := y) ⟨h0, e⟩).1; omega))
        have HGB := Lib.hid (show ∀ y, In ga gc y → bc ≤ y from fun y h => by have := (Own.inn OG2.out h).1; omega)
        have HWB := Lib.hid (show ∀ y, In wa wc y → bc ≤ y from fun y h => by have := (Own.inn SW2.out h).1; omega)
        have HC4 := Lib.hid (HC2.out.trans (C4.out.mono (fun y _ h => h.elim (fun h => HGB.out _ h) (fun h => by omega))) (fun _ _ h => h))
        have ZB4 := Lib.hid (show bc + 1 ≤ W4.heap.size from RC4.out.lt)
        have DJ4 := Lib.hid (show ∀ y, In (some ⟨g3, 0, none⟩) cp3 y → In wa wc y → False from fun y h1 h2 => (I4.out y h1).elim (fun h => DJ.out y h h2) (fun h => by have := (Own.inn SW2.out h2).2; omega))
        have OW4 := Lib.hid (show Own W4 (bc + 1) 22 1 wa m wc (Lw.map Sl.val) from SW4.out)
        have R84 := Lib.hid (show Row W4 b8 24 #[.slice (some ⟨qb, qo, none⟩) k qc] from HQA.out ▸ R8.out.ch HC4.out (by omega))
        have hw5 : IntKind.i64.wrap ((np1 : Int) - 1) = (np : Int) := by have := HNP1.out; rw [IntWalk.i64_in _ (by omega)]; omega
        clear n4
        refine wpIn_seq ?_
        refine wpIn_regionX (AppS W4 (bc + 1) 22 wa m wc (Lw.map Sl.val)) 10 (by kernel_rfl) (by kernel_rfl) ⟨Ch.ofNone (grownBy_drewN W4 1 none) _, Own.grownNone OW4.out (grownBy_drewN W4 1 none)⟩ ?_
        refine wpX_take 0 (v := .pointer (some ⟨bc, 1, none⟩)) (oi := { dst := some 97, op := Op.fieldAddr 33 (Operand.tmp 11) 1, type := 0, pos := "law.go:166", after := #[], guard := none }) (oL := { dst := none, op := Op.store 24 (Operand.tmp 106) (Operand.tmp 105), type := 0, pos := "law.go:166", after := #[{ on := 9, ground := Ground.data }, { on := 8, ground := Ground.data }, { on := 8, ground := Ground.chain }, { on := 0, ground := Ground.phase }, { on := 1, ground := Ground.phase }, { on := 2, ground := Ground.phase }, { on := 3, ground := Ground.phase }, { on := 4, ground := Ground.phase }, { on := 5, ground := Ground.phase }, { on := 6, ground := Ground.phase }, { on := 7, ground := Ground.phase }, { on := 8, ground := Ground.phase }], guard := none }) (clo_app _ _ _ _ _ _ _) rfl rfl rfl (by kernel_rfl) (by kernel_rfl) (by kernel_rfl) (by kernel_rfl) (by kernel_rfl) (fun _ _ _ h => by cases h.1) (YG.val (by rfl) (fun _ _ => by go_simp)) ?_
        simp only [Act.put, List.setIfInBounds_toArray, List.set_cons_zero, List.set_cons_succ]
        refine wpX_take 1 (v := .slice wa m wc) (oi := { dst := some 98, op := Op.load 24 (Operand.tmp 97), type := 24, pos := "law.go:166", after := #[{ on := 0, ground := Ground.data }], guard := none }) (oL := { dst := none, op := Op.store 24 (Operand.tmp 106) (Operand.tmp 105), type := 0, pos := "law.go:166", after := #[{ on := 9, ground := Ground.data }, { on := 8, ground := Ground.data }, { on := 8, ground := Ground.chain }, { on := 0, ground := Ground.phase }, { on := 1, ground := Ground.phase }, { on := 2, ground := Ground.phase }, { on := 3, ground := Ground.phase }, { on := 4, ground := Ground.phase }, { on := 5, ground := Ground.phase }, { on := 6, ground := Ground.phase }, { on := 7, ground := Ground.phase }, { on := 8, ground := Ground.phase }], guard := none }) (clo_app _ _ _ _ _ _ _) rfl rfl rfl (by kernel_rfl) (by kernel_rfl) (by kernel_rfl) (by kernel_rfl) (by kernel_rfl) (fun _ _ _ h => by cases h.1) (YG.val (by rfl) (fun u hu => by have c := Row.cell (RC4.out.ch hu.1 (row_in RC4.out OW4.out (by decide))) 1; simp at c; go_simp)) ?_
        simp only [Act.put, List.setIfInBounds_toArray, List.set_cons_zero, List.set_cons_succ]
        refine wpX_take 2 (v := .slice (some ⟨qb, qo, none⟩) k qc) (oi := { dst := some 99, op := Op.load 24 (Operand.tmp 8), type := 24, pos := "law.go:166", after := #[], guard := none }) (oL := { dst := none, op := Op.store 24 (Operand.tmp 106) (Operand.tmp 105), type := 0, pos := "law.go:166", after := #[{ on := 9, ground := Ground.data }, { on := 8, ground := Ground.data }, { on := 8, ground := Ground.chain }, { on := 0, ground := Ground.phase }, { on := 1, ground := Ground.phase }, { on := 2, ground := Ground.phase }, { on := 3, ground := Ground.phase }, { on := 4, ground := Ground.phase }, { on := 5, ground := Ground.phase }, { on := 6, ground := Ground.phase }, { on := 7, ground := Ground.phase }, { on := 8, ground := Ground.phase }], guard := none }) (clo_app _ _ _ _ _ _ _) rfl rfl rfl (by kernel_rfl) (by kernel_rfl) (by kernel_rfl) (by kernel_rfl) (by kernel_rfl) (fun _ _ _ h => by cases h.1) (YG.val (by rfl) (fun u hu => by have c := Row.cell (R84.out.ch hu.1 (row_in R84.out OW4.out (by decide))) 0; simp at c; go_simp)) ?_
        simp only [Act.put, List.setIfInBounds_toArray, List.set_cons_zero, List.set_cons_succ]
        refine wpX_take 3 (v := .int .i64 (np1 : Int)) (oi := { dst := some 100, op := Op.load 3 (Operand.tmp 13), type := 3, pos := "law.go:166", after := #[], guard := none }) (oL := { dst := none, op := Op.store 24 (Operand.tmp 106) (Operand.tmp 105), type := 0, pos := "law.go:166", after := #[{ on := 9, ground := Ground.data }, { on := 8, ground := Ground.data }, { on := 8, ground := Ground.chain }, { on := 0, ground := Ground.phase }, { on := 1, ground := Ground.phase }, { on := 2, ground := Ground.phase }, { on := 3, ground := Ground.phase }, { on := 4, ground := Ground.phase }, { on := 5, ground := Ground.phase }, { on := 6, ground := Ground.phase }, { on := 7, ground := Ground.phase }, { on := 8, ground := Ground.phase }], guard := none }) (clo_app _ _ _ _ _ _ _) rfl rfl rfl (by kernel_rfl) (by kernel_rfl) (by kernel_rfl) (by kernel_rfl) (by kernel_rfl) (fun _ _ _ h => by cases h.1) (YG.val (by rfl) (fun u hu => by have c := Row.cell (Q134.out.ch hu.1 (row_in Q134.out OW4.out (by decide))) 0; simp at c; go_simp)) ?_
        simp only [Act.put, List.setIfInBounds_toArray, List.set_cons_zero, List.set_cons_succ]
        refine wpX_take 4 (v := .int .i64 (np : Int)) (oi := { dst := some 101, op := Op.binOp BinOp.sub 3 (Operand.tmp 100) (Operand.const (Value.int IntKind.i64 1)) 3, type := 3, pos := "law.go:166", after := #[{ on := 3, ground := Ground.data }], guard := none }) (oL := { dst := none, op := Op.store 24 (Operand.tmp 106) (Operand.tmp 105), type := 0, pos := "law.go:166", after := #[{ on := 9, ground := Ground.data }, { on := 8, ground := Ground.data }, { on := 8, ground := Ground.chain }, { on := 0, ground := Ground.phase }, { on := 1, ground := Ground.phase }, { on := 2, ground := Ground.phase }, { on := 3, ground := Ground.phase }, { on := 4, ground := Ground.phase }, { on := 5, ground := Ground.phase }, { on := 6, ground := Ground.phase }, { on := 7, ground := Ground.phase }, { on := 8, ground := Ground.phase }], guard := none }) (clo_app _ _ _ _ _ _ _) rfl rfl rfl (by kernel_rfl) (by kernel_rfl) (by kernel_rfl) (by kernel_rfl) (by kernel_rfl) (fun _ _ _ h => by cases h.1) (YG.val (by rfl) (fun _ _ => by go_simp)) ?_
        simp only [Act.put, List.setIfInBounds_toArray, List.set_cons_zero, List.set_cons_succ]
        refine wpX_take 5 (v := .pointer (some ⟨qb, qo + np, none⟩)) (oi := { dst := some 102, op := Op.indexAddr 24 (Operand.tmp 99) (Operand.tmp 101), type := 0, pos := "law.go:166", after := #[{ on := 2, ground := Ground.data }, { on := 4, ground := Ground.data }], guard := none }) (oL := { dst := none, op := Op.store 24 (Operand.tmp 106) (Operand.tmp 105), type := 0, pos := "law.go:166", after := #[{ on := 9, ground := Ground.data }, { on := 8, ground := Ground.data }, { on := 8, ground := Ground.chain }, { on := 0, ground := Ground.phase }, { on := 1, ground := Ground.phase }, { on := 2, ground := Ground.phase }, { on := 3, ground := Ground.phase }, { on := 4, ground := Ground.phase }, { on := 5, ground := Ground.phase }, { on := 6, ground := Ground.phase }, { on := 7, ground := Ground.phase }, { on := 8, ground := Ground.phase }], guard := none }) (clo_app _ _ _ _ _ _ _) rfl rfl rfl (by kernel_rfl) (by kernel_rfl) (by kernel_rfl) (by kernel_rfl) (by kernel_rfl) (fun _ _ _ h => by cases h.1) (YG.val (by rfl) (fun _ _ => by go_simp)) ?_
        simp only [Act.put, List.setIfInBounds_toArray, List.set_cons_zero, List.set_cons_succ]
        refine wpX_take 6 (v := .slice xa xn xc) (oi := { dst := some 103, op := Op.load 22 (Operand.tmp 102), type := 22, pos := "law.go:166", after := #[{ on := 5, ground := Ground.data }], guard := none }) (oL := { dst := none, op := Op.store 24 (Operand.tmp 106) (Operand.tmp 105), type := 0, pos := "law.go:166", after := #[{ on := 9, ground := Ground.data }, { on := 8, ground := Ground.data }, { on := 8, ground := Ground.chain }, { on := 0, ground := Ground.phase }, { on := 1, ground := Ground.phase }, { on := 2, ground := Ground.phase }, { on := 3, ground := Ground.phase }, { on := 4, ground := Ground.phase }, { on := 5, ground := Ground.phase }, { on := 6, ground := Ground.phase }, { on := 7, ground := Ground.phase }, { on := 8, ground := Ground.phase }], guard := none }) (clo_app _ _ _ _ _ _ _) rfl rfl rfl (by kernel_rfl) (by kernel_rfl) (by kernel_rfl) (by kernel_rfl) (by kernel_rfl) (fun _ _ _ h => by cases h.1) (YG.val (by rfl) (fun u hu => by have c := HQC.out u (HC4.out.trans (hu.1.mono (fun _ h1 h2 => HWB.out _ h2)) (fun _ _ h => h)); go_simp)) ?_
        simp only [Act.put, List.setIfInBounds_toArray, List.set_cons_zero, List.set_cons_succ]
        refine wpX_step 7 (o := { dst := some 104, op := Op.buildSlice 24 1 #[(0, Operand.tmp 103)], type := 24, pos := "law.go:166", after := #[{ on := 6, ground := Ground.data }], guard := none }) rfl rfl (by kernel_rfl) (by rfl) (fun u2 hS2 K hK => ?_)
        have HKK := Lib.hid hK
        have HS2 := Lib.hid hS2
        clear hK hS2
        have ha2 := World.grownBy_alloc u2 (.cells #[.slice xa xn xc] 22) none
        refine wp_val_op (v := .slice (some ⟨u2.heap.size, 0, none⟩) 1 1) (w1 := u2.alloc (.cells #[.slice xa xn xc] 22)) (by go_simp) ?_
        have hrw2 : Row (u2.alloc (.cells #[.slice xa xn xc] 22)) u2.heap.size 22 #[.slice xa xn xc] := heap_alloc_new u2 _
        refine HKK.out (fun u => AppS W4 (bc + 1) 22 wa m wc (Lw.map Sl.val) u ∧ Row u u2.heap.size 22 #[.slice xa xn xc]) _ _ ⟨clo_app _ _ _ _ _ _ _ _ _ HS2.out ha2, hrw2⟩ (fun u h => h.1) (clo_and (clo_app _ _ _ _ _ _ _) (clo_row _ _ _)) ?_
        simp only [Act.put, List.setIfInBounds_toArray, List.set_cons_zero, List.set_cons_succ]
        clear ha2 hrw2
        have hu26 : W4.heap.size ≤ u2.heap.size := HS2.out.1.size
        refine wpX_step 8 (o := { dst := some 105, op := Op.call { callee := Callee.builtin Builtin.append, args := #[Operand.tmp 98, Operand.tmp 104], argTypes := #[24, 24] }, type := 24, pos := "law.go:166", after := #[{ on := 1, ground := Ground.data }, { on := 7, ground := Ground.data }], guard := none }) rfl rfl (by kernel_rfl) (by rfl) (fun u3 hS3 K3 hK3 => ?_)
        have HK3 := Lib.hid hK3
        have HS3 := Lib.hid hS3
        clear hK3 hS3
        have hnews : ∀ j u, ([.slice xa xn xc] : List Value)[j]? = some u → u3.cell? ((⟨u2.heap.size, 0, none⟩ : Addr).add j) = some u := by
          intro j u hu
          have h2 : ((⟨u2.heap.size, 0, none⟩ : Addr).add j) = ⟨u2.heap.size, j, none⟩ := by unfold Addr.add; split <;> simp_all
          rw [h2, Row.cell HS3.out.2]
          simpa using hu
        have hzb : (bc + 1) ≤ u3.heap.size := by
          have h1 := ZB4.out
          have h2 := HS3.out.1.1.size
          omega
        have hFn : ¬ In wa wc u2.heap.size := fun h => by
          have := (Own.inn OW4.out h).2
          omega
        obtain ⟨gW5, cW5, w8, hrun, hown8, hgr8⟩ := run_app (P := Try.prog) (ty := 24) u3 elS HS3.out.1.2 ⟨u2.heap.size, 0, none⟩ 1 1 [.slice xa xn xc] rfl hnews (by simp [Value.oneCell']) (by unfold maxLen; omega) (by omega) hzb (fun _ _ _ => trivial) (by omega)
        refine wp_val_op (v := .slice (some ⟨gW5, 0, none⟩) (m + 1) cW5) (w1 := w8) (run_app_op u3 w8 _ (.tmp 98) (.tmp 104) rfl _ hrun) ?_
        refine HK3.out (fun u => (AppS W4 (bc + 1) 22 wa m wc (Lw.map Sl.val) u ∧ Row u u2.heap.size 22 #[.slice xa xn xc]) ∧ w8.grownBy u none) _ _ ⟨⟨⟨HS3.out.1.1.trans hgr8.ch (fun _ _ h => h), own_behind HS3.out.1.2 hown8 hgr8⟩, Row.ch HS3.out.2 hgr8.ch hFn⟩, World.grownBy.refl _ _⟩ (fun u h => h.1) (clo_and (clo_and (clo_app _ _ _ _ _ _ _) (clo_row _ _ _)) (clo_grown _)) ?_
        simp only [Act.put, List.setIfInBounds_toArray, List.set_cons_zero, List.set_cons_succ]
        refine wpX_take 9 (v := .pointer (some ⟨bc, 1, none⟩)) (oi := { dst := some 106, op := Op.fieldAddr 33 (Operand.tmp 11) 1, type := 0, pos := "law.go:166", after := #[{ on := 0, ground := Ground.phase }, { on := 1, ground := Ground.phase }, { on := 2, ground := Ground.phase }, { on := 3, ground := Ground.phase }, { on := 4, ground := Ground.phase }, { on := 5, ground := Ground.phase }, { on := 6, ground := Ground.phase }, { on := 7, ground := Ground.phase }, { on := 8, ground := Ground.phase }], guard := none }) (oL := { dst := none, op := Op.store 24 (Operand.tmp 106) (Operand.tmp 105), type := 0, pos := "law.go:166", after := #[{ on := 9, ground := Ground.data }, { on := 8, ground := Ground.data }, { on := 8, ground := Ground.chain }, { on := 0, ground := Ground.phase }, { on := 1, ground := Ground.phase }, { on := 2, ground := Ground.phase }, { on := 3, ground := Ground.phase }, { on := 4, ground := Ground.phase }, { on := 5, ground := Ground.phase }, { on := 6, ground := Ground.phase }, { on := 7, ground := Ground.phase }, { on := 8, ground := Ground.phase }], guard := none }) (clo_and (clo_and (clo_app _ _ _ _ _ _ _) (clo_row _ _ _)) (clo_grown _)) rfl rfl rfl (by kernel_rfl) (by kernel_rfl) (by kernel_rfl) (by kernel_rfl) (by kernel_rfl) (fun _ _ _ h => by cases h.1) (YG.val (by rfl) (fun _ _ => by go_simp)) ?_
        simp only [Act.put, List.setIfInBounds_toArray, List.set_cons_zero, List.set_cons_succ]
        refine wpX_last (oL := { dst := none, op := Op.store 24 (Operand.tmp 106) (Operand.tmp 105), type := 0, pos := "law.go:166", after := #[{ on := 9, ground := Ground.data }, { on := 8, ground := Ground.data }, { on := 8, ground := Ground.chain }, { on := 0, ground := Ground.phase }, { on := 1, ground := Ground.phase }, { on := 2, ground := Ground.phase }, { on := 3, ground := Ground.phase }, { on := 4, ground := Ground.phase }, { on := 5, ground := Ground.phase }, { on := 6, ground := Ground.phase }, { on := 7, ground := Ground.phase }, { on := 8, ground := Ground.phase }], guard := none }) rfl (by kernel_rfl) (by kernel_rfl) (by rfl) (fun u4 hS4 K4 hK4 => ?_)
        have hrow4 := RC4.out.ch hS4.1.1.1 (row_in RC4.out OW4.out (by decide))
        have hc4 := Row.cell hrow4 1
        have hf4 := Row.frozen hrow4 1
        simp at hc4
        refine wp_skip_op (w1 := u4.setCell ⟨bc, 1, none⟩ (.slice (some ⟨gW5, 0, none⟩) (m + 1) cW5)) (by go_simp) (hK4 _ _ ?_)
        simp only [Act.put]
        obtain ⟨W5, hw9⟩ : ∃ W5, W5 = u4.setCell ⟨bc, 1, none⟩ (.slice (some ⟨gW5, 0, none⟩) (m + 1) cW5) := ⟨_, rfl⟩
        rw [← hw9]
        have hg9 : u4.grownBy W5 (some bc) := hw9 ▸ grownBy_setCell _ _ _ _
        have RW5 := Lib.hid (show Row W5 bc 33 #[.slice (some ⟨g3, 0, none⟩) (m + 1) cp3, .slice (some ⟨gW5, 0, none⟩) (m + 1) cW5] from hw9 ▸ Row.setc hrow4 1 _)
        have hown4 : Own u4 (bc + 1) 22 1 (some ⟨gW5, 0, none⟩) (m + 1) cW5 (Lw.map Sl.val ++ [.slice xa xn xc]) := Own.grownNone hown8 hS4.2
        have hnb := row_in hrow4 hown4 (by decide)
        have OW5 := Lib.hid (Own.ch hown4 (Ch.ofSome (S := fun x => x = bc) hg9 rfl) (fun h0 g e h => by subst h; exact hnb ⟨h0, e⟩))
        have CW5 := Lib.hid (show Ch (fun x => In wa wc x ∨ x = bc) W4 W5 from (hS4.1.1.1.mono (fun _ _ h => .inl h)).trans (Ch.ofSome (S := fun x => In wa wc x ∨ x = bc) hg9 (.inr rfl)) (fun _ _ h => h))
        have IW5 := Lib.hid (show ∀ x, In (some ⟨gW5, 0, none⟩) cW5 x → In wa wc x ∨ W4.heap.size ≤ x from fun x hx => (hgr8.inn hx).imp id (fun h => Nat.le_trans (show W4.heap.size ≤ u3.heap.size from HS3.out.1.1.size) h))
        clear HKK HS2 HK3 HS3 hnews hzb hFn hrun hown8 hgr8 hS4 hK4 hrow4 hc4 hf4 hw9 hg9 hown4 hnb hu26
        refine ⟨rfl, ?_⟩
        show Code.wpIn _ _ _ _ _ _ _
        clear hw5
        have n5 : ∀ y cs (T' : TypeId), Row W4 y T' cs → T' ≠ 22 → y ≠ bc → ¬ (In wa wc y ∨ y = bc) := fun y cs T' hr hT h h2 => h2.elim (row_in hr OW4.out hT) h
        have Q125 := Lib.hid (Q124.out.ch CW5.out (n5 _ _ _ Q124.out (by decide) (by omega)))
        have Q135 := Lib.hid (Q134.out.ch CW5.out (n5 _ _ _ Q134.out (by decide) (by omega)))
        have LG5 := Lib.hid (LG4.out.chS CW5.out (fun y hy h => by
            rcases h with h | rfl
            · exact DJ4.out y hy h
            · have := (Own.inn LG4.out.outer hy).1; omega) (fun i hi y hy h => by
            rcases h with h | rfl
            · exact byte_notin (LG4.out.inner i hi (by have := LG4.out.len; omega)) OW4.out y hy h
            · have := (LG4.out.inn hi hy).1; omega))
        have HC5 := Lib.hid (HC4.out.trans (CW5.out.mono (fun y _ h => h.elim (fun h => HWB.out _ h) (fun h => by omega))) (fun _ _ h => h))
        have DJ5 := Lib.hid (show ∀ y, In (some ⟨g3, 0, none⟩) cp3 y → In (some ⟨gW5, 0, none⟩) cW5 y → False from fun y h1 h2 => (IW5.out y h2).elim (fun h => DJ4.out y h1 h) (fun h => by have := (Own.inn LG4.out.outer h1).2; omega))
        have hTl : (T ++ [pb]).length = m + 1 := by rw [HM.out]; simp
        have CK5 : CkS bc (bc + 1) Lp (plB all) (T ++ [pb]) ⟨some ⟨g3, 0, none⟩, cp3, Lg ++ [⟨sa, sm, sc⟩], some ⟨gW5, 0, none⟩, cW5, Lw ++ [⟨xa, xn, xc⟩]⟩ W5 := by
          refine ⟨?_, ?_, ?_, HWOK.out.push np hLn hPn HSX.out HPE.out, DJ5.out⟩
          · show Row _ _ _ #[.slice _ (T ++ [pb]).length _, .slice _ (T ++ [pb]).length _]
            rw [hTl]; exact RW5.out
          · show LIs _ _ _ (T ++ [pb]).length _ _ _
            rw [hTl]; exact LG5.out
          · show Own _ _ _ _ _ (T ++ [pb]).length _ _
            rw [hTl, List.map_append]; exact OW5.out
        have HCK5 := Lib.hid CK5
        have HCT := Lib.hid (show Ch (fun y => y = bc ∨ In ga gc y ∨ In wa wc y ∨ y = b13) W W5 from (((Ch.ofNone GW1.out _).trans (C2.out.mono (fun _ _ h => by simp [h])) (fun _ _ h => h)).trans (C4.out.mono (fun _ _ h => by rcases h with h | h <;> simp [h])) (fun _ _ h => h)).trans (CW5.out.mono (fun _ _ h => by rcases h with h | h <;> simp [h])) (fun _ _ h => h))
        have HCELL := Lib.hid (show ∀ y, (y = bc ∨ In ga gc y ∨ In wa wc y ∨ y = b13) → ∃ cs t m, W.heap[y]? = some (.cells cs t m) from fun y hS => by
          rcases hS with rfl | h | h | rfl
          · exact ⟨_, _, _, RC.out⟩
          · exact Own.cellsAt LG.out.outer h
          · exact Own.cellsAt SW.out h
          · exact ⟨_, _, _, Q13.out⟩)
        have HLOW := Lib.hid (show ∀ y, (y = bc ∨ In ga gc y ∨ In wa wc y ∨ y = b13) → bc ≤ y from fun y hS => by
          rcases hS with rfl | h | h | rfl
          · exact Nat.le_refl _
          · exact HGB.out y h
          · exact HWB.out y h
          · omega)
        have HD5 := Lib.hid (show ∀ D ∈ ([D1, D0] : List Nat), D < hi ∧ W5.heap[D]? = some (.deferred (some [])) from fun D hD => ⟨(HDD.out D hD).1, (HCT.out.block D (Array.getElem?_eq_some_iff.1 (HDD.out D hD).2).1 (fun hS => by
          obtain ⟨cs, t', m', h⟩ := HCELL.out D hS
          rw [(HDD.out D hD).2] at h
          cases h)).trans (HDD.out D hD).2⟩)
        have hlen : ((pre ++ [(⟨at_, ⟨sa, sm, sc⟩, pb⟩ : Pce)]).length : Int) = (np1 : Int) := by have := HNP.out; have := HNP1.out; simp; omega
        have happ : t ++ (pre ++ [(⟨at_, ⟨sa, sm, sc⟩, pb⟩ : Pce)]).map Pce.b = T ++ [pb] := by rw [HTT.out]; simp
        have HFIN := Lib.hid (show LwI w15 b12 b13 bc hi 2 [D1, D0] Lp (plB all) t (pre ++ [(⟨at_, ⟨sa, sm, sc⟩, pb⟩ : Pce)]) W5 from ⟨_, Q125.out, by rw [hlen]; exact Q135.out, by rw [happ]; exact CK5, HC5.out, by have h1 := HCT.out.size; have h2 := HZ0.out; have h3 := HKZ.out; omega, HD5.out⟩)
        clear n5 hTl CK5 hlen happ
        have c12 := Row.cell Q125.out 0
        have c13 := Row.cell Q135.out 0
        have c5 := Row.cell (R5.out.ch HC5.out (by omega)) 0
        simp at c12 c13 c5
        rcases Classical.em (np1 = 2) with h2 | h2
        · have h2d : ((np1 : Int) == 2) = true := by rw [beq_iff_eq]; omega
          clear h2
          have c10 := Row.cell (R10.out.ch HC5.out (by omega)) 0
          simp at c10
          gi_wp2
          clear c10 c12 c13 c5 h2d
          have hz5 : W.heap.size ≤ W5.heap.size := HCT.out.size
          have hz0' : hi ≤ W5.heap.size := HFIN.out.choose_spec.2.2.2.2.1
          obtain ⟨NS, hNS⟩ : ∃ NS, NS = (fun (U : World) => KeepsFrom v1.heap.size W U ∧ KeptS (Chk.S b1 b2 ao co) W U ∧ LwI w15 b12 b13 bc hi 2 [D1, D0] Lp (plB all) t (pre ++ [(⟨at_, ⟨sa, sm, sc⟩, pb⟩ : Pce)]) U) := ⟨_, rfl⟩
          have nsO : ∀ (A B : World) (row : Option Nat), NS A → A.grownBy B row → (∀ r, row = some r → W5.heap.size ≤ r ∧ ∃ o : Obj, A.heap[r]? = some o ∧ o.isCells = false) → NS B := by
            subst hNS
            intro A B row ⟨n1, n2, n3⟩ hg hr
            exact ⟨ownFrom_keepsFrom (β := Unit) (B := v1.heap.size) hz5 () A B row n1 hg hr, n2.nc hg hz5 (fun r e => (hr r e).1), LwI.own (by omega) hz0' _ A B row n3 hg hr⟩
          have nsC : ∀ U, NS U → Ch (fun y => bc ≤ y) w15 U := by subst hNS; intro U h; exact h.2.2.choose_spec.2.2.2.1
          have ns5 : NS W5 := by
            subst hNS
            exact ⟨KeepsFrom.ch HCT.out HCELL.out, KeptS.ch HCT.out (fun y hs hS => by have h1 := (HCKB.out y hs).2; have h2 := HLOW.out y hS; omega), HFIN.out⟩
          have nsE : ∀ U, NS U → KeepsFrom v1.heap.size W U ∧ KeptS (Chk.S b1 b2 ao co) W U ∧ LwI w15 b12 b13 bc hi 2 [D1, D0] Lp (plB all) t (pre ++ [(⟨at_, ⟨sa, sm, sc⟩, pb⟩ : Pce)]) U := by subst hNS; intro U h; exact h
          have NSO := Lib.hid nsO
          have NSC := Lib.hid nsC
          have NS5 := Lib.hid ns5
          have NSE := Lib.hid nsE
          obtain ⟨r0, hr0⟩ := HREC.out
          have hr5 : W5.heap[lp]? = some (.loop r0) := (HCT.out.block lp (Array.getElem?_eq_some_iff.1 hr0).1 (fun hS => by
            obtain ⟨cs, t', m', h⟩ := HCELL.out lp hS
            rw [hr0] at h
            cases h)).trans hr0
          clear nsO nsC ns5 nsE hNS hr0
          refine wpIn_rangeOkN (F := Fence.wide.inRound lp) (n := 1) (l₀ := lp) (r₀ := r0) rfl hr5 (by omega) (gf := 61) (lb := #[.pointer (some ⟨b1, 0, none⟩), .pointer (some ⟨b2, 0, none⟩)]) rfl trivial (enters_of Try.func61 (by kernel_rfl) rfl)
            (SeqOk.inRound lp (chunks1_in 0 _ b1 b2 z ao n co l W5 (HCK.out W5 HC5.out) (by omega))) KeptS.trans (fun W l o o' hl _ _ _ => KeptS.put W l o' (fun hs => by have := (HCKB.out _ hs).2; have := HC5.out.size; omega))
            (fun pre x W0 W l o o' h hl ho => h.put l o' hl ho) (Below.refl _ _) (fun _ => rfl)
            (fun pre' U => pre' = [] ∧ NS U) (fun cd pre' U => cd = .exit 4 ∧ NS U) (fun _ A B row h hg hr => ⟨h.1, NSO.out A B row h.2 hg hr⟩) (fun _ _ A B row h hg hr => ⟨h.1, NSO.out A B row h.2 hg hr⟩)
            ⟨rfl, NS5.out⟩
            (fun T y => (((T.setIfInBounds 121 (.int .i64 (y.at_ : Int))).setIfInBounds 122 y.sl.val).setIfInBounds 16 (.int .i64 (y.at_ : Int))).setIfInBounds 17 y.sl.val) ?assignN ?bodyN ?doneN ?stopN
          case assignN =>
            intro lp x W K hK
            simp only [Pce.vals]
            gi_wp2
            exact hK
          case stopN =>
            rintro cd pre' U hSp ⟨rfl, hns⟩
            have NSU := Lib.hid hns
            clear hns
            gi_wp2
            exact NSE.out U NSU.out
          case doneN =>
            rintro xs U hS ⟨rfl, _⟩
            exfalso
            have h1 : all = [] := by rw [HALL.out, ← hS]; rfl
            have h2 := HPK.out
            rw [h1] at h2
            have : k = 0 := h2.symm
            omega
          case bodyN =>
            rintro lp2 pre2 ⟨at2, ⟨sa2, sm2, sc2⟩, pb2⟩ U0 U hlp2 hrec2 ⟨rfl, _⟩ ⟨_, hns⟩ hkc2 hok2
            obtain ⟨rr2, hrr2⟩ := hok2.at_
            rw [← HALL.out] at hrr2
            have hk0 : 0 < k := by omega
            have hP0 : 0 < (plB all).length := by rw [HPK.out]; exact hk0
            have hp2 : pb2 = (plB all)[0] := by
              have h : (plB all)[0]? = some pb2 := by rw [plB, ← hrr2]; rfl
              rw [List.getElem?_eq_getElem hP0] at h
              injection h with h
              exact h.symm
            have ha2 : at2 = 0 := by
              have h1 : (all)[0]? = some (at2, pb2) := by rw [← hrr2]; rfl
              rw [HALL.out] at h1
              exact chL_first z l at2 pb2 h1
            subst ha2
            have hown2 : BOwn U U0.heap.size sa2 sm2 sc2 pb2 := hok2.own
            have hsm2 : pb2.length = sm2 := BOwn.len hown2
            have hpb2 : pb2.length ≤ 4000 := by have := HPB.out pb2 (by rw [hp2]; exact List.getElem_mem _); omega
            have hcu := NSC.out U hns
            obtain ⟨hl1, hl2, hl3⟩ := HLIE.out U hcu
            have hL0 : 0 < Lp.length := by rw [hl2]; exact hP0
            obtain ⟨qb2, qo2, hqa2, hq0⟩ := hl1 0 (by rw [List.length_map]; exact hL0)
            obtain ⟨⟨ya, yn, yc⟩, hs2⟩ : ∃ s, s = Lp[0] := ⟨_, rfl⟩
            have hcq2 : U.cell? ⟨qb2, qo2, none⟩ = some (.slice ya yn yc) := by rw [Nat.add_zero] at hq0; rw [hq0, List.getElem_map, ← hs2]; rfl
            obtain ⟨hyl, hyn⟩ := hl3 0 hL0 hP0
            rw [← hs2, ← hp2] at hyl hyn
            simp only at hyl hyn
            have HSAME2 := Lib.hid (same_yes sa2 ya sc2 yc sm2 yn pb2 U hown2.lies hyl hsm2 hyn.symm (by unfold maxLen; omega))
            have c8 := Row.cell (R8.out.ch hcu (by omega)) 0
            simp at c8
            rw [hqa2] at c8
            have hk0d : decide ((0 : Int) < (k : Int)) = true := decide_eq_true (by omega)
            have hk0e : decide (0 < k) = true := decide_eq_true hk0
            have NSU := Lib.hid hns
            clear hl1 hl2 hl3 hq0 hyl hyn hs2 hp2 hrr2 hok2 hown2 hkc2 hrec2 hlp2 hcu hns hsm2 hqa2
            simp only [List.setIfInBounds_toArray, List.set_cons_zero, List.set_cons_succ, Sl.val]
            rw [show ((0 : Nat) : Int) = 0 from rfl]
            gi_wp2_with ((with_reducible refine And.intro ?hh (And.intro ?hh2 ?_)); (case hh => exact trivial); (case hh2 => exact rfl); gi_at_call 19; refine (CallsIn.inRound lp2 (calls_wide (l := lp) HSAME2.out)).mono ?_; rintro e U1 ⟨rfl, q5, hq5⟩; have GU1 := Lib.hid (show U.grownBy U1 none from hq5 ▸ grownBy_drewN _ _ _); clear hq5 q5)
            exact ⟨KeepsFrom.ch (Ch.ofNone GU1.out (fun _ => False)) (fun _ h => h.elim), rfl, NSO.out U U1 none NSU.out GU1.out (fun r e => by cases e)⟩
        · have h2d : ((np1 : Int) == 2) = false := by rw [beq_eq_false_iff_ne]; omega
          gi_wp2
          exact ⟨KeepsFrom.ch HCT.out HCELL.out, KeptS.ch HCT.out (fun y hs hS => by have h1 := (HCKB.out y hs).2; have h2 := HLOW.out y hS; omega), HFIN.out⟩
      case stop2 =>
        rintro D cd pre W hD hS h hK
        exact h.elim
      case done2 =>
        rintro D2 xs W hD hS ⟨x, r12, r13, cs, hch, hz, hds⟩ hK
        have hxl : xs.length = k := by
          have h1 := congrArg List.length hS
          have h2 := HPK.out
          rw [← HALL.out, List.length_map] at h1
          rw [plB, List.length_map] at h2
          omega
        have hpl : xs.length ≤ 4000 := by omega
        clear hS
        have RR := Lib.hid r12
        have CS := Lib.hid cs
        have HC := Lib.hid hch
        have HKD := Lib.hid hK
        have HDS := Lib.hid hds
        have HLT2 := Lib.hid (show ∀ D' ∈ ([D1, D0] : List Nat), D' < D2 from fun D' h => by have := (hds D' h).1; omega)
        have HDW2 := Lib.hid (show w15.heap.size ≤ D2 from by have := HCV.out.size; omega)
        have c12 := Row.cell r12 0
        have c13 := Row.cell r13 0
        have c8 := Row.cell (R8.out.ch hch (by omega)) 0
        simp at c12 c13 c8
        have HPL2 := Lib.hid hpl
        clear r12 r13 cs hch hK hds hpl hz hD
        rw [hxl] at c13
        have hkk : ((k : Int) != (k : Int)) = false := by simp
        go_wp2_with (first
          | (refine wpList_fresh1 rfl rfl rfl rfl rfl hii hiiz hiis rfl (.int .i64 2) rfl rfl rfl ?_; intro v2 hs g hr; have GV2 := Lib.hid g; have RV := Lib.hid (show Row v2 W.heap.size 3 #[.int .i64 2] from hr); have cv := Row.cell RV.out 0; simp at cv; clear hs g hr c12 c13 c8)
          | (refine wpList_put1 rfl rfl W.heap.size rfl (.int .i64 3) rfl RV.out (by kernel_rfl) rfl ?_; intro v3 hs g hr; have GV3 := Lib.hid g; have RV3 := Lib.hid (show Row v3 W.heap.size 3 #[.int .i64 3] from hr); clear hs g hr cv))
        clear hkk
        obtain ⟨b12, hb12⟩ : ∃ b12, b12 = W.heap.size := ⟨_, rfl⟩
        have q12 : bc < b12 := by rw [hb12]; exact CS.out.1.lt
        rw [← hb12] at RV RV3 GV3 ⊢
        clear hb12
        have CV3 : Ch (fun y => y = b12) v2 v3 := Ch.ofSome GV3.out rfl
        have cs2 := CS.out.nc (b0 := 0) GV2.out (fun r e => by cases e)
        replace CS := Lib.hid (cs2.ch CV3 (by omega) (fun y hy e => by omega) (row_in RV.out cs2.2.1.outer (by decide)) (row_in RV.out cs2.2.2.1 (by decide)) (fun i hi h => row_in RV.out (cs2.2.1.inner i hi (by have := cs2.2.1.len; omega)) (by decide) h))
        replace HC := Lib.hid ((HC.out.then GV2.out).trans (CV3.mono (fun y _ h => by omega)) (fun _ _ h => h))
        have hdn : ∀ D' : Nat, W.heap[D']? = some (.deferred (some [])) → v3.heap[D']? = some (.deferred (some [])) := fun D' h => by
          have h2 := dds1 h GV2.out
          exact (CV3.block D' (Array.getElem?_eq_some_iff.1 h2).1 (fun e => by
            subst e
            have h3 : v2.heap[D']? = _ := RV.out
            rw [h2] at h3
            cases h3)).trans h2
        have HDS' := Lib.hid (show ∀ D' ∈ ([D2, D1, D0] : List Nat), w15.heap.size ≤ D' ∧ v3.heap[D']? = some (.deferred (some [])) from fun D' h => by
          rcases List.mem_cons.1 h with rfl | h
          · exact ⟨HDW2.out, hdn _ HKD.out⟩
          · exact ⟨(HDO.out D' h), hdn _ (HDS.out D' h).2⟩)
        have RR := RV3
        have HDS := HDS'
        obtain ⟨t', ht'⟩ : ∃ t', t' = t ++ xs.map Pce.b := ⟨_, rfl⟩
        have htl : t'.length ≤ 16000 := by rw [ht', List.length_append, List.length_map]; have h1 := HTL.out; have h2 := HPL2.out; omega
        rw [← ht'] at CS
        obtain ⟨t, htt⟩ : ∃ t, t = t' := ⟨_, rfl⟩
        rw [← htt] at CS htl
        have HTL := Lib.hid htl
        clear htl ht' htt hdn CV3 cs2 GV2 GV3 RV HKD HDS'
        rw [rounds_succ]
        obtain ⟨⟨ga, gc, Lg, wa, wc, Lw⟩, hxe⟩ : ∃ y, y = x := ⟨_, rfl⟩
        have cs := CS.out
        rw [← hxe] at cs
        obtain ⟨rc, lg, sw, wok, dj⟩ := cs
        simp only at rc lg sw wok
        obtain ⟨m, hm⟩ : ∃ m, m = t.length := ⟨_, rfl⟩
        rw [← hm] at rc lg sw
        have hm4 : m ≤ 16000 := by rw [hm]; exact HTL.out
        have htb : ∀ b ∈ t, b.length ≤ 4000 := fun b hb => by
          obtain ⟨i, hi, rfl⟩ := List.getElem_of_mem hb
          obtain ⟨j, hj, hj', _, e⟩ := wok.2 i (by rw [wok.1]; exact hi) hi
          rw [e]
          have := HPB.out _ (List.getElem_mem hj')
          omega
        have hwl := want_lies sw (HLIE.out v3 HC.out) wok
        have hsl := sameLists_n ga wa gc wc m m Lg Lw t t v3 lg.lies hwl hm.symm hm.symm (by unfold maxLen; omega) (fun b hb => by have := htb b hb; unfold maxLen; omega)
        rw [show decide (t = t) = true from decide_eq_true rfl] at hsl
        have HSL := Lib.hid hsl
        clear hsl
        have cg := Row.cell rc 0
        have cw := Row.cell rc 1
        simp at cg cw
        have LG := Lib.hid lg
        have RC := Lib.hid rc
        have HTB := Lib.hid htb
        have HMM := Lib.hid hm
        clear hxe rc lg sw wok dj hm htb hwl CS
        have c12 := Row.cell RR.out 0
        simp at c12
        go_wp2_with fail
        clear c12
        refine HSL.out.mono ?_
        rintro e v4 ⟨rfl, q4, hq4⟩
        have G4 := Lib.hid (show v3.grownBy v4 none from hq4 ▸ grownBy_drewN _ _ _)
        have cg4 := Row.cell (RC.out.grown G4.out) 0
        simp at cg4
        clear hq4 q4 cg cw HSL
        have LG4 := Lib.hid (LG.out.grown G4.out)
        have hall : ∀ q ∈ Lg, ∃ u, BOwn v4 (bc + 1) q.a q.n q.c u ∧ q.n ≤ 100000000 := fun q hq => by
          obtain ⟨i, hi, rfl⟩ := List.getElem_of_mem hq
          have hl := LG4.out.len
          have h1 := LG4.out.inner i hi (by omega)
          have h2 := h1.len
          have h3 := HTB.out (t[i]'(by omega)) (List.getElem_mem _)
          exact ⟨_, h1, by omega⟩
        have hst : TSt1 (bc + 1) ga gc Lg v4 0 0 v4 := tst1_own LG4.out.outer (fun j hj => by
          obtain ⟨u, h1, _⟩ := hall _ (List.getElem_mem hj)
          exact ⟨u, h1⟩)
        have HAP := Lib.hid (apartT_n (bc + 1) ga gc m Lg v4 hst (by have := RC.out.lt; have := G4.out.size; omega) LG4.out.apart (by rw [LG4.out.len]; exact HMM.out.symm) (by omega) (fun j hj => (hall _ (List.getElem_mem hj)).choose_spec.2))
        have HALLQ := Lib.hid hall
        clear hst hall
        go_wp2_with fail
        refine HAP.out.mono ?_
        rintro e v5 ⟨rfl, hbel⟩
        have HBEL := Lib.hid hbel
        have GW4 := Lib.hid (show w.grownBy v4 none from grownBy_trans (Ch.fresh G15.out HC.out (fun y hy h => by omega)) G4.out)
        have GW5 := Lib.hid (grown_below GW4.out hbel.toBelow (by omega))
        have R64 := (R6.out.ch HC.out (by omega)).grown G4.out
        have R65 := Lib.hid (show Row v5 b6 4 #[.bool false] from (hbel.toBelow.block b6 (by omega)).trans R64)
        have HD5 := Lib.hid (show ∀ D ∈ ([D2, D1, D0] : List Nat), w15.heap.size ≤ D ∧ v5.heap[D]? = some (.deferred (some [])) from fun D hD => by
          have h4 := dds1 (HDS.out D hD).2 G4.out
          refine ⟨(HDS.out D hD).1, (hbel.off D (.inr ⟨(Array.getElem?_eq_some_iff.1 h4).1, fun j hj e => ?_⟩)).trans h4⟩
          obtain ⟨u, h1, _⟩ := HALLQ.out _ (List.getElem_mem hj)
          obtain ⟨hc, ha⟩ := BOwn.blk h1 e
          obtain ⟨cs, ty, fr, h2⟩ := Own.cellsAt h1 (g := D) ⟨hc, ha⟩
          rw [h4] at h2
          cases h2)
        clear hbel R64 cg4 HAP
        go_wp2_with (refine wpList_put1 rfl rfl b6 rfl (.bool true) rfl R65.out sizeBO rfl ?_; intro v6 hs g hr; have G6 := Lib.hid g; have R66 := Lib.hid (show Row v6 b6 4 #[.bool true] from hr); clear hs g hr)
        have GW6 : w.grownBy v6 none := grownBy_old GW5.out G6.out (by omega)
        have hd : ∀ D ∈ ([D2, D1, D0] : List Nat), D ≠ b6 ∧ v6.heap[D]? = some (.deferred (some [])) := fun D hD => by
          have h1 := (HD5.out D hD).1
          have h2 := HD5.out D hD
          refine ⟨by omega, (G6.out.block D (Array.getElem?_eq_some_iff.1 h2.2).1 (fun e => by injection e with e; omega)).trans h2.2⟩
        have hl1 := HLT1.out D0 (by simp)
        have hl2 := HLT2.out D0 (by simp)
        have hl3 := HLT2.out D1 (by simp)
        have e2 := hd D2 (by simp)
        have e1 := hd D1 (by simp)
        have e0 := hd D0 (by simp)
        have g2 := grownBy_putObj' v6 D2 (.deferred none)
        obtain ⟨x2, hx2⟩ : ∃ x2, x2 = v6.putObj D2 (.deferred none) := ⟨_, rfl⟩
        have e1' : x2.heap[D1]? = some (.deferred (some [])) := by rw [hx2]; exact (g2.block D1 (Array.getElem?_eq_some_iff.1 e1.2).1 (fun e => by injection e with e; omega)).trans e1.2
        have e0' : x2.heap[D0]? = some (.deferred (some [])) := by rw [hx2]; exact (g2.block D0 (Array.getElem?_eq_some_iff.1 e0.2).1 (fun e => by injection e with e; omega)).trans e0.2
        rw [← hx2] at g2
        have g1 := grownBy_putObj' x2 D1 (.deferred none)
        obtain ⟨x1, hx1⟩ : ∃ x1, x1 = x2.putObj D1 (.deferred none) := ⟨_, rfl⟩
        have e0'' : x1.heap[D0]? = some (.deferred (some [])) := by rw [hx1]; exact (g1.block D0 (Array.getElem?_eq_some_iff.1 e0').1 (fun e => by injection e with e; omega)).trans e0'
        rw [← hx1] at g1
        have g0 := grownBy_putObj' x1 D0 (.deferred none)
        have hD0 := (HD5.out D0 (by simp)).1
        have hD1 := (HD5.out D1 (by simp)).1
        have hD2 := (HD5.out D2 (by simp)).1
        have hww := G15.out.size
        have hrB := ((R66.out.grownNe g2 (by omega)).grownNe g1 (by omega)).grownNe g0 (by omega)
        have hgZ := grownBy_old (grownBy_old (grownBy_old GW6 g2 (by omega)) g1 (by omega)) g0 (by omega)
        refine ⟨by simp, .inl ⟨_, _, rfl, run_takeDeferred e2.2, ?_⟩⟩
        rw [← hx2]
        refine ⟨by simp, .inl ⟨_, _, rfl, run_takeDeferred e1', ?_⟩⟩
        rw [← hx1]
        refine ⟨by simp, .inl ⟨_, _, rfl, run_takeDeferred e0'', ?_⟩⟩
        exact ⟨_, results_cell1 rfl _ _ b6 _ rfl hrB, rfl, hgZ⟩
end Go.Proofs.Ythemlaibjchjpaa
