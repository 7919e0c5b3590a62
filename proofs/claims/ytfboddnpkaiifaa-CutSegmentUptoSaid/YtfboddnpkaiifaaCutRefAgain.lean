/- the document's Again. -/
import Derived.Test.YtfboddnpkaiifaaCutRefShapeT
import Derived.Test.YtfboddnpkaiifaaCutFitsW
import Derived.Handy
namespace Go.Proofs.Ytfboddnpkaiifaa
open Go.RowKit

set_option maxRecDepth 100000 in
set_option maxHeartbeats 4000000 in
theorem refAgain_a (k n seg z : Int) (S1 S2 : Sh) (E1 E2 : Nat) (w : World)
    (h1 : ∀ w, Calls Try.prog 31 #[.agg #[.int .i64 k, .int .i64 n, .int .i64 seg, .int .i64 0, .slice none 0 0], .int .i64 z] w fun e w' => e = .returned (.tuple #[S1.val, .int .i64 (E1 : Nat)]) ∧ w.grownBy w' none)
    (h2 : ∀ w, Calls Try.prog 31 #[.agg #[.int .i64 k, .int .i64 n, .int .i64 65536, .int .i64 0, .slice none 0 0], .int .i64 z] w fun e w' => e = .returned (.tuple #[S2.val, .int .i64 (E2 : Nat)]) ∧ w.grownBy w' none)
    (a1 : E1 = 0) (a2 : S1.seg = seg) :
    Calls Try.prog 35 #[.int .i64 k, .int .i64 n, .int .i64 seg, .int .i64 z] w fun e w' => e = .returned (.tuple #[S1.val, .int .i64 0]) ∧ w.grownBy w' none := by
  obtain ⟨k1', n1', g1', z1', s1', t1', b1', l1'⟩ := S1
  obtain ⟨k2', n2', g2', z2', s2', t2', b2', l2'⟩ := S2
  unfold Sh.val at *
  simp only at *
  have H1 := Lib.hid h1
  have H2 := Lib.hid h2
  clear h1 h2
  subst a1 a2
  go_enter Try.func35, Try.ntmps35
  have HR0 := Lib.hid (heap_alloc_new w (.cells #[.int .i64 0, .int .i64 0, .int .i64 0, .int .i64 0, .int .i64 0, .int .i64 0, .int .i64 0, .int .i64 0] 47))
  have HG0 := Lib.hid (World.grownBy_alloc w (.cells #[.int .i64 0, .int .i64 0, .int .i64 0, .int .i64 0, .int .i64 0, .int .i64 0, .int .i64 0, .int .i64 0] 47) none)
  go_wp2_with fail
  refine wp_loop_rounds 3 ?_
  rw [rounds_succ]
  go_wp2_with fail
  refine (H1.out _).mono ?_
  rintro e w1 ⟨rfl, g1⟩
  have HR1 := Lib.hid (heap_grown HR0.out g1)
  have HG1 := Lib.hid (grownBy_trans HG0.out g1)
  have hl1 : w.heap.size < w1.heap.size := (Array.getElem?_eq_some_iff.1 HR1.out).1
  clear g1
  obtain ⟨V1, hV1⟩ : ∃ W, W = (w1.alloc (.cells #[.int .i64 0, .int .i64 0, .int .i64 0, .int .i64 0, .int .i64 0, .int .i64 0, .int .i64 0, .int .i64 0] 47)).setRow w1.heap.size #[.int .i64 k1', .int .i64 n1', .int .i64 g1', .int .i64 z1', .int .i64 s1', .int .i64 t1', .int .i64 b1', .int .i64 l1'] := ⟨_, rfl⟩
  have hn1 : V1.heap[w1.heap.size]? = some (.cells #[.int .i64 k1', .int .i64 n1', .int .i64 g1', .int .i64 z1', .int .i64 s1', .int .i64 t1', .int .i64 b1', .int .i64 l1'] 47 (0, 0)) := by rw [hV1]; exact setRow_heap _ _ _ _ _ _ (heap_alloc_new _ _)
  have hr1 : V1.heap[w.heap.size]? = some (.cells #[.int .i64 0, .int .i64 0, .int .i64 0, .int .i64 0, .int .i64 0, .int .i64 0, .int .i64 0, .int .i64 0] 47 (0, 0)) := by rw [hV1]; exact (setRow_other _ w1.heap.size w.heap.size _ (by omega)).trans (heap_grown HR1.out (World.grownBy_alloc _ _ none))
  have hg1 : w.grownBy V1 none := by rw [hV1]; exact grownBy_old (grownBy_trans HG1.out (World.grownBy_alloc _ _ none)) (grownBy_setRow _ w1.heap.size #[.int .i64 k1', .int .i64 n1', .int .i64 g1', .int .i64 z1', .int .i64 s1', .int .i64 t1', .int .i64 b1', .int .i64 l1']) (by omega)
  have c2_1 : V1.cell? ⟨w1.heap.size, 2, none⟩ = some (.int .i64 g1') := by simp only [World.cell?, hn1]; rfl
  have HN1 := Lib.hid hn1
  have HS1 := Lib.hid hr1
  have HT1 := Lib.hid hg1
  have HV1 := Lib.hid hV1
  clear hn1 hr1 hg1 hV1
  go_wp2_with (first | (refine wpList_store_row rfl 47 _ _ rfl w1.heap.size #[.int .i64 k1', .int .i64 n1', .int .i64 g1', .int .i64 z1', .int .i64 s1', .int .i64 t1', .int .i64 b1', .int .i64 l1'] rfl rfl 47 _ (heap_alloc_new w1 (.cells #[.int .i64 0, .int .i64 0, .int .i64 0, .int .i64 0, .int .i64 0, .int .i64 0, .int .i64 0, .int .i64 0] 47)) size_shape rfl (by simp [Value.oneCell']) ?_; rw [← HV1.out]) | (refine wpList_load_row rfl 47 _ rfl w1.heap.size rfl 47 #[.int .i64 k1', .int .i64 n1', .int .i64 g1', .int .i64 z1', .int .i64 s1', .int .i64 t1', .int .i64 b1', .int .i64 l1'] (0, 0) _ HN1.out Try.underlying47 rfl size_shape ?_) | (refine wpList_store_row rfl 47 _ _ rfl w.heap.size #[.int .i64 k1', .int .i64 n1', .int .i64 g1', .int .i64 z1', .int .i64 s1', .int .i64 t1', .int .i64 b1', .int .i64 l1'] rfl rfl 47 _ HS1.out size_shape rfl (by simp [Value.oneCell']) ?_) | (refine wpList_store_row rfl 47 _ _ rfl w.heap.size #[.int .i64 0, .int .i64 0, .int .i64 0, .int .i64 0, .int .i64 0, .int .i64 0, .int .i64 0, .int .i64 0] rfl rfl 47 _ HS1.out size_shape rfl (by simp [Value.oneCell']) ?_))
  refine bodyPost_ret (v := .tuple #[.agg #[.int .i64 k1', .int .i64 n1', .int .i64 g1', .int .i64 z1', .int .i64 s1', .int .i64 t1', .int .i64 b1', .int .i64 l1'], .int .i64 0]) (results_ct rfl _ _ w.heap.size 47 #[.int .i64 k1', .int .i64 n1', .int .i64 g1', .int .i64 z1', .int .i64 s1', .int .i64 t1', .int .i64 b1', .int .i64 l1'] (0, 0) _ _ rfl rfl (setRow_heap _ _ _ _ _ _ HS1.out) Try.underlying47 rfl size_shape) rfl ⟨rfl, ?_⟩
  exact grownBy_old HT1.out (grownBy_setRow _ _ _) (by omega)

set_option maxRecDepth 100000 in
set_option maxHeartbeats 4000000 in
theorem refAgain_b (k n seg z : Int) (S1 S2 : Sh) (E1 E2 : Nat) (w : World)
    (h1 : ∀ w, Calls Try.prog 31 #[.agg #[.int .i64 k, .int .i64 n, .int .i64 seg, .int .i64 0, .slice none 0 0], .int .i64 z] w fun e w' => e = .returned (.tuple #[S1.val, .int .i64 (E1 : Nat)]) ∧ w.grownBy w' none)
    (h2 : ∀ w, Calls Try.prog 31 #[.agg #[.int .i64 k, .int .i64 n, .int .i64 65536, .int .i64 0, .slice none 0 0], .int .i64 z] w fun e w' => e = .returned (.tuple #[S2.val, .int .i64 (E2 : Nat)]) ∧ w.grownBy w' none)
    (a1 : ¬ (E1 = 0 ∧ S1.seg = seg)) (a2 : E2 = 0) (a3 : S2.seg = seg) :
    Calls Try.prog 35 #[.int .i64 k, .int .i64 n, .int .i64 seg, .int .i64 z] w fun e w' => e = .returned (.tuple #[S2.val, .int .i64 0]) ∧ w.grownBy w' none := by
  obtain ⟨k1', n1', g1', z1', s1', t1', b1', l1'⟩ := S1
  obtain ⟨k2', n2', g2', z2', s2', t2', b2', l2'⟩ := S2
  unfold Sh.val at *
  simp only at *
  have H1 := Lib.hid h1
  have H2 := Lib.hid h2
  clear h1 h2
  subst a2 a3
  go_enter Try.func35, Try.ntmps35
  have HR0 := Lib.hid (heap_alloc_new w (.cells #[.int .i64 0, .int .i64 0, .int .i64 0, .int .i64 0, .int .i64 0, .int .i64 0, .int .i64 0, .int .i64 0] 47))
  have HG0 := Lib.hid (World.grownBy_alloc w (.cells #[.int .i64 0, .int .i64 0, .int .i64 0, .int .i64 0, .int .i64 0, .int .i64 0, .int .i64 0, .int .i64 0] 47) none)
  go_wp2_with fail
  refine wp_loop_rounds 3 ?_
  rw [rounds_succ]
  go_wp2_with fail
  refine (H1.out _).mono ?_
  rintro e w1 ⟨rfl, g1⟩
  have HR1 := Lib.hid (heap_grown HR0.out g1)
  have HG1 := Lib.hid (grownBy_trans HG0.out g1)
  have hl1 : w.heap.size < w1.heap.size := (Array.getElem?_eq_some_iff.1 HR1.out).1
  clear g1
  obtain ⟨V1, hV1⟩ : ∃ W, W = (w1.alloc (.cells #[.int .i64 0, .int .i64 0, .int .i64 0, .int .i64 0, .int .i64 0, .int .i64 0, .int .i64 0, .int .i64 0] 47)).setRow w1.heap.size #[.int .i64 k1', .int .i64 n1', .int .i64 g1', .int .i64 z1', .int .i64 s1', .int .i64 t1', .int .i64 b1', .int .i64 l1'] := ⟨_, rfl⟩
  have hn1 : V1.heap[w1.heap.size]? = some (.cells #[.int .i64 k1', .int .i64 n1', .int .i64 g1', .int .i64 z1', .int .i64 s1', .int .i64 t1', .int .i64 b1', .int .i64 l1'] 47 (0, 0)) := by rw [hV1]; exact setRow_heap _ _ _ _ _ _ (heap_alloc_new _ _)
  have hr1 : V1.heap[w.heap.size]? = some (.cells #[.int .i64 0, .int .i64 0, .int .i64 0, .int .i64 0, .int .i64 0, .int .i64 0, .int .i64 0, .int .i64 0] 47 (0, 0)) := by rw [hV1]; exact (setRow_other _ w1.heap.size w.heap.size _ (by omega)).trans (heap_grown HR1.out (World.grownBy_alloc _ _ none))
  have hg1 : w.grownBy V1 none := by rw [hV1]; exact grownBy_old (grownBy_trans HG1.out (World.grownBy_alloc _ _ none)) (grownBy_setRow _ w1.heap.size #[.int .i64 k1', .int .i64 n1', .int .i64 g1', .int .i64 z1', .int .i64 s1', .int .i64 t1', .int .i64 b1', .int .i64 l1']) (by omega)
  have c2_1 : V1.cell? ⟨w1.heap.size, 2, none⟩ = some (.int .i64 g1') := by simp only [World.cell?, hn1]; rfl
  have HN1 := Lib.hid hn1
  have HS1 := Lib.hid hr1
  have HT1 := Lib.hid hg1
  have HV1 := Lib.hid hV1
  clear hn1 hr1 hg1 hV1
  by_cases e1 : E1 = 0
  · have e2 : ¬ g1' = g2' := fun h => a1 ⟨e1, h⟩
    subst e1
    clear a1
    go_wp2_with (first | (refine wpList_store_row rfl 47 _ _ rfl w1.heap.size #[.int .i64 k1', .int .i64 n1', .int .i64 g1', .int .i64 z1', .int .i64 s1', .int .i64 t1', .int .i64 b1', .int .i64 l1'] rfl rfl 47 _ (heap_alloc_new w1 (.cells #[.int .i64 0, .int .i64 0, .int .i64 0, .int .i64 0, .int .i64 0, .int .i64 0, .int .i64 0, .int .i64 0] 47)) size_shape rfl (by simp [Value.oneCell']) ?_; rw [← HV1.out]) | (refine wpList_load_row rfl 47 _ rfl w1.heap.size rfl 47 #[.int .i64 k1', .int .i64 n1', .int .i64 g1', .int .i64 z1', .int .i64 s1', .int .i64 t1', .int .i64 b1', .int .i64 l1'] (0, 0) _ HN1.out Try.underlying47 rfl size_shape ?_) | (refine wpList_store_row rfl 47 _ _ rfl w.heap.size #[.int .i64 k1', .int .i64 n1', .int .i64 g1', .int .i64 z1', .int .i64 s1', .int .i64 t1', .int .i64 b1', .int .i64 l1'] rfl rfl 47 _ HS1.out size_shape rfl (by simp [Value.oneCell']) ?_) | (refine wpList_store_row rfl 47 _ _ rfl w.heap.size #[.int .i64 0, .int .i64 0, .int .i64 0, .int .i64 0, .int .i64 0, .int .i64 0, .int .i64 0, .int .i64 0] rfl rfl 47 _ HS1.out size_shape rfl (by simp [Value.oneCell']) ?_))
    rw [rounds_succ]
    go_wp2_with fail
    refine (H2.out _).mono ?_
    rintro e w2 ⟨rfl, g2⟩
    have HR2 := Lib.hid (heap_grown HS1.out g2)
    have HG2 := Lib.hid (grownBy_trans HT1.out g2)
    have hl2 : w.heap.size < w2.heap.size := (Array.getElem?_eq_some_iff.1 HR2.out).1
    clear g2
    obtain ⟨V2, hV2⟩ : ∃ W, W = (w2.alloc (.cells #[.int .i64 0, .int .i64 0, .int .i64 0, .int .i64 0, .int .i64 0, .int .i64 0, .int .i64 0, .int .i64 0] 47)).setRow w2.heap.size #[.int .i64 k2', .int .i64 n2', .int .i64 g2', .int .i64 z2', .int .i64 s2', .int .i64 t2', .int .i64 b2', .int .i64 l2'] := ⟨_, rfl⟩
    have hn2 : V2.heap[w2.heap.size]? = some (.cells #[.int .i64 k2', .int .i64 n2', .int .i64 g2', .int .i64 z2', .int .i64 s2', .int .i64 t2', .int .i64 b2', .int .i64 l2'] 47 (0, 0)) := by rw [hV2]; exact setRow_heap _ _ _ _ _ _ (heap_alloc_new _ _)
    have hr2 : V2.heap[w.heap.size]? = some (.cells #[.int .i64 0, .int .i64 0, .int .i64 0, .int .i64 0, .int .i64 0, .int .i64 0, .int .i64 0, .int .i64 0] 47 (0, 0)) := by rw [hV2]; exact (setRow_other _ w2.heap.size w.heap.size _ (by omega)).trans (heap_grown HR2.out (World.grownBy_alloc _ _ none))
    have hg2 : w.grownBy V2 none := by rw [hV2]; exact grownBy_old (grownBy_trans HG2.out (World.grownBy_alloc _ _ none)) (grownBy_setRow _ w2.heap.size #[.int .i64 k2', .int .i64 n2', .int .i64 g2', .int .i64 z2', .int .i64 s2', .int .i64 t2', .int .i64 b2', .int .i64 l2']) (by omega)
    have c2_2 : V2.cell? ⟨w2.heap.size, 2, none⟩ = some (.int .i64 g2') := by simp only [World.cell?, hn2]; rfl
    have HN2 := Lib.hid hn2
    have HS2 := Lib.hid hr2
    have HT2 := Lib.hid hg2
    have HV2 := Lib.hid hV2
    clear hn2 hr2 hg2 hV2
    go_wp2_with (first | (refine wpList_store_row rfl 47 _ _ rfl w2.heap.size #[.int .i64 k2', .int .i64 n2', .int .i64 g2', .int .i64 z2', .int .i64 s2', .int .i64 t2', .int .i64 b2', .int .i64 l2'] rfl rfl 47 _ (heap_alloc_new w2 (.cells #[.int .i64 0, .int .i64 0, .int .i64 0, .int .i64 0, .int .i64 0, .int .i64 0, .int .i64 0, .int .i64 0] 47)) size_shape rfl (by simp [Value.oneCell']) ?_; rw [← HV2.out]) | (refine wpList_load_row rfl 47 _ rfl w2.heap.size rfl 47 #[.int .i64 k2', .int .i64 n2', .int .i64 g2', .int .i64 z2', .int .i64 s2', .int .i64 t2', .int .i64 b2', .int .i64 l2'] (0, 0) _ HN2.out Try.underlying47 rfl size_shape ?_) | (refine wpList_store_row rfl 47 _ _ rfl w.heap.size #[.int .i64 k2', .int .i64 n2', .int .i64 g2', .int .i64 z2', .int .i64 s2', .int .i64 t2', .int .i64 b2', .int .i64 l2'] rfl rfl 47 _ HS2.out size_shape rfl (by simp [Value.oneCell']) ?_) | (refine wpList_store_row rfl 47 _ _ rfl w.heap.size #[.int .i64 0, .int .i64 0, .int .i64 0, .int .i64 0, .int .i64 0, .int .i64 0, .int .i64 0, .int .i64 0] rfl rfl 47 _ HS2.out size_shape rfl (by simp [Value.oneCell']) ?_))
    refine bodyPost_ret (v := .tuple #[.agg #[.int .i64 k2', .int .i64 n2', .int .i64 g2', .int .i64 z2', .int .i64 s2', .int .i64 t2', .int .i64 b2', .int .i64 l2'], .int .i64 0]) (results_ct rfl _ _ w.heap.size 47 #[.int .i64 k2', .int .i64 n2', .int .i64 g2', .int .i64 z2', .int .i64 s2', .int .i64 t2', .int .i64 b2', .int .i64 l2'] (0, 0) _ _ rfl rfl (setRow_heap _ _ _ _ _ _ HS2.out) Try.underlying47 rfl size_shape) rfl ⟨rfl, ?_⟩
    exact grownBy_old HT2.out (grownBy_setRow _ _ _) (by omega)
  · have e2 : ¬ ((E1 : Nat) : Int) = 0 := by omega
    clear a1 e1
    go_wp2_with (first | (refine wpList_store_row rfl 47 _ _ rfl w1.heap.size #[.int .i64 k1', .int .i64 n1', .int .i64 g1', .int .i64 z1', .int .i64 s1', .int .i64 t1', .int .i64 b1', .int .i64 l1'] rfl rfl 47 _ (heap_alloc_new w1 (.cells #[.int .i64 0, .int .i64 0, .int .i64 0, .int .i64 0, .int .i64 0, .int .i64 0, .int .i64 0, .int .i64 0] 47)) size_shape rfl (by simp [Value.oneCell']) ?_; rw [← HV1.out]) | (refine wpList_load_row rfl 47 _ rfl w1.heap.size rfl 47 #[.int .i64 k1', .int .i64 n1', .int .i64 g1', .int .i64 z1', .int .i64 s1', .int .i64 t1', .int .i64 b1', .int .i64 l1'] (0, 0) _ HN1.out Try.underlying47 rfl size_shape ?_) | (refine wpList_store_row rfl 47 _ _ rfl w.heap.size #[.int .i64 k1', .int .i64 n1', .int .i64 g1', .int .i64 z1', .int .i64 s1', .int .i64 t1', .int .i64 b1', .int .i64 l1'] rfl rfl 47 _ HS1.out size_shape rfl (by simp [Value.oneCell']) ?_) | (refine wpList_store_row rfl 47 _ _ rfl w.heap.size #[.int .i64 0, .int .i64 0, .int .i64 0, .int .i64 0, .int .i64 0, .int .i64 0, .int .i64 0, .int .i64 0] rfl rfl 47 _ HS1.out size_shape rfl (by simp [Value.oneCell']) ?_))
    rw [rounds_succ]
    go_wp2_with fail
    refine (H2.out _).mono ?_
    rintro e w2 ⟨rfl, g2⟩
    have HR2 := Lib.hid (heap_grown HS1.out g2)
    have HG2 := Lib.hid (grownBy_trans HT1.out g2)
    have hl2 : w.heap.size < w2.heap.size := (Array.getElem?_eq_some_iff.1 HR2.out).1
    clear g2
    obtain ⟨V2, hV2⟩ : ∃ W, W = (w2.alloc (.cells #[.int .i64 0, .int .i64 0, .int .i64 0, .int .i64 0, .int .i64 0, .int .i64 0, .int .i64 0, .int .i64 0] 47)).setRow w2.heap.size #[.int .i64 k2', .int .i64 n2', .int .i64 g2', .int .i64 z2', .int .i64 s2', .int .i64 t2', .int .i64 b2', .int .i64 l2'] := ⟨_, rfl⟩
    have hn2 : V2.heap[w2.heap.size]? = some (.cells #[.int .i64 k2', .int .i64 n2', .int .i64 g2', .int .i64 z2', .int .i64 s2', .int .i64 t2', .int .i64 b2', .int .i64 l2'] 47 (0, 0)) := by rw [hV2]; exact setRow_heap _ _ _ _ _ _ (heap_alloc_new _ _)
    have hr2 : V2.heap[w.heap.size]? = some (.cells #[.int .i64 0, .int .i64 0, .int .i64 0, .int .i64 0, .int .i64 0, .int .i64 0, .int .i64 0, .int .i64 0] 47 (0, 0)) := by rw [hV2]; exact (setRow_other _ w2.heap.size w.heap.size _ (by omega)).trans (heap_grown HR2.out (World.grownBy_alloc _ _ none))
    have hg2 : w.grownBy V2 none := by rw [hV2]; exact grownBy_old (grownBy_trans HG2.out (World.grownBy_alloc _ _ none)) (grownBy_setRow _ w2.heap.size #[.int .i64 k2', .int .i64 n2', .int .i64 g2', .int .i64 z2', .int .i64 s2', .int .i64 t2', .int .i64 b2', .int .i64 l2']) (by omega)
    have c2_2 : V2.cell? ⟨w2.heap.size, 2, none⟩ = some (.int .i64 g2') := by simp only [World.cell?, hn2]; rfl
    have HN2 := Lib.hid hn2
    have HS2 := Lib.hid hr2
    have HT2 := Lib.hid hg2
    have HV2 := Lib.hid hV2
    clear hn2 hr2 hg2 hV2
    go_wp2_with (first | (refine wpList_store_row rfl 47 _ _ rfl w2.heap.size #[.int .i64 k2', .int .i64 n2', .int .i64 g2', .int .i64 z2', .int .i64 s2', .int .i64 t2', .int .i64 b2', .int .i64 l2'] rfl rfl 47 _ (heap_alloc_new w2 (.cells #[.int .i64 0, .int .i64 0, .int .i64 0, .int .i64 0, .int .i64 0, .int .i64 0, .int .i64 0, .int .i64 0] 47)) size_shape rfl (by simp [Value.oneCell']) ?_; rw [← HV2.out]) | (refine wpList_load_row rfl 47 _ rfl w2.heap.size rfl 47 #[.int .i64 k2', .int .i64 n2', .int .i64 g2', .int .i64 z2', .int .i64 s2', .int .i64 t2', .int .i64 b2', .int .i64 l2'] (0, 0) _ HN2.out Try.underlying47 rfl size_shape ?_) | (refine wpList_store_row rfl 47 _ _ rfl w.heap.size #[.int .i64 k2', .int .i64 n2', .int .i64 g2', .int .i64 z2', .int .i64 s2', .int .i64 t2', .int .i64 b2', .int .i64 l2'] rfl rfl 47 _ HS2.out size_shape rfl (by simp [Value.oneCell']) ?_) | (refine wpList_store_row rfl 47 _ _ rfl w.heap.size #[.int .i64 0, .int .i64 0, .int .i64 0, .int .i64 0, .int .i64 0, .int .i64 0, .int .i64 0, .int .i64 0] rfl rfl 47 _ HS2.out size_shape rfl (by simp [Value.oneCell']) ?_))
    refine bodyPost_ret (v := .tuple #[.agg #[.int .i64 k2', .int .i64 n2', .int .i64 g2', .int .i64 z2', .int .i64 s2', .int .i64 t2', .int .i64 b2', .int .i64 l2'], .int .i64 0]) (results_ct rfl _ _ w.heap.size 47 #[.int .i64 k2', .int .i64 n2', .int .i64 g2', .int .i64 z2', .int .i64 s2', .int .i64 t2', .int .i64 b2', .int .i64 l2'] (0, 0) _ _ rfl rfl (setRow_heap _ _ _ _ _ _ HS2.out) Try.underlying47 rfl size_shape) rfl ⟨rfl, ?_⟩
    exact grownBy_old HT2.out (grownBy_setRow _ _ _) (by omega)

set_option maxRecDepth 100000 in
set_option maxHeartbeats 4000000 in
theorem refAgain_c (k n seg z : Int) (S1 S2 : Sh) (E1 E2 : Nat) (w : World)
    (h1 : ∀ w, Calls Try.prog 31 #[.agg #[.int .i64 k, .int .i64 n, .int .i64 seg, .int .i64 0, .slice none 0 0], .int .i64 z] w fun e w' => e = .returned (.tuple #[S1.val, .int .i64 (E1 : Nat)]) ∧ w.grownBy w' none)
    (h2 : ∀ w, Calls Try.prog 31 #[.agg #[.int .i64 k, .int .i64 n, .int .i64 65536, .int .i64 0, .slice none 0 0], .int .i64 z] w fun e w' => e = .returned (.tuple #[S2.val, .int .i64 (E2 : Nat)]) ∧ w.grownBy w' none)
    (a1 : ¬ (E1 = 0 ∧ S1.seg = seg)) (a2 : ¬ (E2 = 0 ∧ S2.seg = seg)) :
    Calls Try.prog 35 #[.int .i64 k, .int .i64 n, .int .i64 seg, .int .i64 z] w fun e w' => e = .returned (.tuple #[.agg #[.int .i64 0, .int .i64 0, .int .i64 0, .int .i64 0, .int .i64 0, .int .i64 0, .int .i64 0, .int .i64 0], .int .i64 92]) ∧ w.grownBy w' none := by
  obtain ⟨k1', n1', g1', z1', s1', t1', b1', l1'⟩ := S1
  obtain ⟨k2', n2', g2', z2', s2', t2', b2', l2'⟩ := S2
  unfold Sh.val at *
  simp only at *
  have H1 := Lib.hid h1
  have H2 := Lib.hid h2
  clear h1 h2
  go_enter Try.func35, Try.ntmps35
  have HR0 := Lib.hid (heap_alloc_new w (.cells #[.int .i64 0, .int .i64 0, .int .i64 0, .int .i64 0, .int .i64 0, .int .i64 0, .int .i64 0, .int .i64 0] 47))
  have HG0 := Lib.hid (World.grownBy_alloc w (.cells #[.int .i64 0, .int .i64 0, .int .i64 0, .int .i64 0, .int .i64 0, .int .i64 0, .int .i64 0, .int .i64 0] 47) none)
  go_wp2_with fail
  refine wp_loop_rounds 3 ?_
  rw [rounds_succ]
  go_wp2_with fail
  refine (H1.out _).mono ?_
  rintro e w1 ⟨rfl, g1⟩
  have HR1 := Lib.hid (heap_grown HR0.out g1)
  have HG1 := Lib.hid (grownBy_trans HG0.out g1)
  have hl1 : w.heap.size < w1.heap.size := (Array.getElem?_eq_some_iff.1 HR1.out).1
  clear g1
  obtain ⟨V1, hV1⟩ : ∃ W, W = (w1.alloc (.cells #[.int .i64 0, .int .i64 0, .int .i64 0, .int .i64 0, .int .i64 0, .int .i64 0, .int .i64 0, .int .i64 0] 47)).setRow w1.heap.size #[.int .i64 k1', .int .i64 n1', .int .i64 g1', .int .i64 z1', .int .i64 s1', .int .i64 t1', .int .i64 b1', .int .i64 l1'] := ⟨_, rfl⟩
  have hn1 : V1.heap[w1.heap.size]? = some (.cells #[.int .i64 k1', .int .i64 n1', .int .i64 g1', .int .i64 z1', .int .i64 s1', .int .i64 t1', .int .i64 b1', .int .i64 l1'] 47 (0, 0)) := by rw [hV1]; exact setRow_heap _ _ _ _ _ _ (heap_alloc_new _ _)
  have hr1 : V1.heap[w.heap.size]? = some (.cells #[.int .i64 0, .int .i64 0, .int .i64 0, .int .i64 0, .int .i64 0, .int .i64 0, .int .i64 0, .int .i64 0] 47 (0, 0)) := by rw [hV1]; exact (setRow_other _ w1.heap.size w.heap.size _ (by omega)).trans (heap_grown HR1.out (World.grownBy_alloc _ _ none))
  have hg1 : w.grownBy V1 none := by rw [hV1]; exact grownBy_old (grownBy_trans HG1.out (World.grownBy_alloc _ _ none)) (grownBy_setRow _ w1.heap.size #[.int .i64 k1', .int .i64 n1', .int .i64 g1', .int .i64 z1', .int .i64 s1', .int .i64 t1', .int .i64 b1', .int .i64 l1']) (by omega)
  have c2_1 : V1.cell? ⟨w1.heap.size, 2, none⟩ = some (.int .i64 g1') := by simp only [World.cell?, hn1]; rfl
  have HN1 := Lib.hid hn1
  have HS1 := Lib.hid hr1
  have HT1 := Lib.hid hg1
  have HV1 := Lib.hid hV1
  clear hn1 hr1 hg1 hV1
  by_cases e1 : E1 = 0
  · have e2 : ¬ g1' = seg := fun h => a1 ⟨e1, h⟩
    subst e1
    clear a1
    go_wp2_with (first | (refine wpList_store_row rfl 47 _ _ rfl w1.heap.size #[.int .i64 k1', .int .i64 n1', .int .i64 g1', .int .i64 z1', .int .i64 s1', .int .i64 t1', .int .i64 b1', .int .i64 l1'] rfl rfl 47 _ (heap_alloc_new w1 (.cells #[.int .i64 0, .int .i64 0, .int .i64 0, .int .i64 0, .int .i64 0, .int .i64 0, .int .i64 0, .int .i64 0] 47)) size_shape rfl (by simp [Value.oneCell']) ?_; rw [← HV1.out]) | (refine wpList_load_row rfl 47 _ rfl w1.heap.size rfl 47 #[.int .i64 k1', .int .i64 n1', .int .i64 g1', .int .i64 z1', .int .i64 s1', .int .i64 t1', .int .i64 b1', .int .i64 l1'] (0, 0) _ HN1.out Try.underlying47 rfl size_shape ?_) | (refine wpList_store_row rfl 47 _ _ rfl w.heap.size #[.int .i64 k1', .int .i64 n1', .int .i64 g1', .int .i64 z1', .int .i64 s1', .int .i64 t1', .int .i64 b1', .int .i64 l1'] rfl rfl 47 _ HS1.out size_shape rfl (by simp [Value.oneCell']) ?_) | (refine wpList_store_row rfl 47 _ _ rfl w.heap.size #[.int .i64 0, .int .i64 0, .int .i64 0, .int .i64 0, .int .i64 0, .int .i64 0, .int .i64 0, .int .i64 0] rfl rfl 47 _ HS1.out size_shape rfl (by simp [Value.oneCell']) ?_))
    rw [rounds_succ]
    go_wp2_with fail
    refine (H2.out _).mono ?_
    rintro e w2 ⟨rfl, g2⟩
    have HR2 := Lib.hid (heap_grown HS1.out g2)
    have HG2 := Lib.hid (grownBy_trans HT1.out g2)
    have hl2 : w.heap.size < w2.heap.size := (Array.getElem?_eq_some_iff.1 HR2.out).1
    clear g2
    obtain ⟨V2, hV2⟩ : ∃ W, W = (w2.alloc (.cells #[.int .i64 0, .int .i64 0, .int .i64 0, .int .i64 0, .int .i64 0, .int .i64 0, .int .i64 0, .int .i64 0] 47)).setRow w2.heap.size #[.int .i64 k2', .int .i64 n2', .int .i64 g2', .int .i64 z2', .int .i64 s2', .int .i64 t2', .int .i64 b2', .int .i64 l2'] := ⟨_, rfl⟩
    have hn2 : V2.heap[w2.heap.size]? = some (.cells #[.int .i64 k2', .int .i64 n2', .int .i64 g2', .int .i64 z2', .int .i64 s2', .int .i64 t2', .int .i64 b2', .int .i64 l2'] 47 (0, 0)) := by rw [hV2]; exact setRow_heap _ _ _ _ _ _ (heap_alloc_new _ _)
    have hr2 : V2.heap[w.heap.size]? = some (.cells #[.int .i64 0, .int .i64 0, .int .i64 0, .int .i64 0, .int .i64 0, .int .i64 0, .int .i64 0, .int .i64 0] 47 (0, 0)) := by rw [hV2]; exact (setRow_other _ w2.heap.size w.heap.size _ (by omega)).trans (heap_grown HR2.out (World.grownBy_alloc _ _ none))
    have hg2 : w.grownBy V2 none := by rw [hV2]; exact grownBy_old (grownBy_trans HG2.out (World.grownBy_alloc _ _ none)) (grownBy_setRow _ w2.heap.size #[.int .i64 k2', .int .i64 n2', .int .i64 g2', .int .i64 z2', .int .i64 s2', .int .i64 t2', .int .i64 b2', .int .i64 l2']) (by omega)
    have c2_2 : V2.cell? ⟨w2.heap.size, 2, none⟩ = some (.int .i64 g2') := by simp only [World.cell?, hn2]; rfl
    have HN2 := Lib.hid hn2
    have HS2 := Lib.hid hr2
    have HT2 := Lib.hid hg2
    have HV2 := Lib.hid hV2
    clear hn2 hr2 hg2 hV2
    by_cases e3 : E2 = 0
    · have e4 : ¬ g2' = seg := fun h => a2 ⟨e3, h⟩
      subst e3
      clear a2
      go_wp2_with (first | (refine wpList_store_row rfl 47 _ _ rfl w2.heap.size #[.int .i64 k2', .int .i64 n2', .int .i64 g2', .int .i64 z2', .int .i64 s2', .int .i64 t2', .int .i64 b2', .int .i64 l2'] rfl rfl 47 _ (heap_alloc_new w2 (.cells #[.int .i64 0, .int .i64 0, .int .i64 0, .int .i64 0, .int .i64 0, .int .i64 0, .int .i64 0, .int .i64 0] 47)) size_shape rfl (by simp [Value.oneCell']) ?_; rw [← HV2.out]) | (refine wpList_load_row rfl 47 _ rfl w2.heap.size rfl 47 #[.int .i64 k2', .int .i64 n2', .int .i64 g2', .int .i64 z2', .int .i64 s2', .int .i64 t2', .int .i64 b2', .int .i64 l2'] (0, 0) _ HN2.out Try.underlying47 rfl size_shape ?_) | (refine wpList_store_row rfl 47 _ _ rfl w.heap.size #[.int .i64 k2', .int .i64 n2', .int .i64 g2', .int .i64 z2', .int .i64 s2', .int .i64 t2', .int .i64 b2', .int .i64 l2'] rfl rfl 47 _ HS2.out size_shape rfl (by simp [Value.oneCell']) ?_) | (refine wpList_store_row rfl 47 _ _ rfl w.heap.size #[.int .i64 0, .int .i64 0, .int .i64 0, .int .i64 0, .int .i64 0, .int .i64 0, .int .i64 0, .int .i64 0] rfl rfl 47 _ HS2.out size_shape rfl (by simp [Value.oneCell']) ?_))
      rw [rounds_succ]
      go_wp2_with (first | (refine wpList_store_row rfl 47 _ _ rfl w2.heap.size #[.int .i64 k2', .int .i64 n2', .int .i64 g2', .int .i64 z2', .int .i64 s2', .int .i64 t2', .int .i64 b2', .int .i64 l2'] rfl rfl 47 _ (heap_alloc_new w2 (.cells #[.int .i64 0, .int .i64 0, .int .i64 0, .int .i64 0, .int .i64 0, .int .i64 0, .int .i64 0, .int .i64 0] 47)) size_shape rfl (by simp [Value.oneCell']) ?_; rw [← HV2.out]) | (refine wpList_load_row rfl 47 _ rfl w2.heap.size rfl 47 #[.int .i64 k2', .int .i64 n2', .int .i64 g2', .int .i64 z2', .int .i64 s2', .int .i64 t2', .int .i64 b2', .int .i64 l2'] (0, 0) _ HN2.out Try.underlying47 rfl size_shape ?_) | (refine wpList_store_row rfl 47 _ _ rfl w.heap.size #[.int .i64 k2', .int .i64 n2', .int .i64 g2', .int .i64 z2', .int .i64 s2', .int .i64 t2', .int .i64 b2', .int .i64 l2'] rfl rfl 47 _ HS2.out size_shape rfl (by simp [Value.oneCell']) ?_) | (refine wpList_store_row rfl 47 _ _ rfl w.heap.size #[.int .i64 0, .int .i64 0, .int .i64 0, .int .i64 0, .int .i64 0, .int .i64 0, .int .i64 0, .int .i64 0] rfl rfl 47 _ HS2.out size_shape rfl (by simp [Value.oneCell']) ?_))
      refine bodyPost_ret (v := .tuple #[.agg #[.int .i64 0, .int .i64 0, .int .i64 0, .int .i64 0, .int .i64 0, .int .i64 0, .int .i64 0, .int .i64 0], .int .i64 92]) (results_ct rfl _ _ w.heap.size 47 #[.int .i64 0, .int .i64 0, .int .i64 0, .int .i64 0, .int .i64 0, .int .i64 0, .int .i64 0, .int .i64 0] (0, 0) _ _ rfl rfl (setRow_heap _ _ _ _ _ _ HS2.out) Try.underlying47 rfl size_shape) rfl ⟨rfl, ?_⟩
      exact grownBy_old HT2.out (grownBy_setRow _ _ _) (by omega)
    · have e4 : ¬ ((E2 : Nat) : Int) = 0 := by omega
      clear a2 e3
      go_wp2_with (first | (refine wpList_store_row rfl 47 _ _ rfl w2.heap.size #[.int .i64 k2', .int .i64 n2', .int .i64 g2', .int .i64 z2', .int .i64 s2', .int .i64 t2', .int .i64 b2', .int .i64 l2'] rfl rfl 47 _ (heap_alloc_new w2 (.cells #[.int .i64 0, .int .i64 0, .int .i64 0, .int .i64 0, .int .i64 0, .int .i64 0, .int .i64 0, .int .i64 0] 47)) size_shape rfl (by simp [Value.oneCell']) ?_; rw [← HV2.out]) | (refine wpList_load_row rfl 47 _ rfl w2.heap.size rfl 47 #[.int .i64 k2', .int .i64 n2', .int .i64 g2', .int .i64 z2', .int .i64 s2', .int .i64 t2', .int .i64 b2', .int .i64 l2'] (0, 0) _ HN2.out Try.underlying47 rfl size_shape ?_) | (refine wpList_store_row rfl 47 _ _ rfl w.heap.size #[.int .i64 k2', .int .i64 n2', .int .i64 g2', .int .i64 z2', .int .i64 s2', .int .i64 t2', .int .i64 b2', .int .i64 l2'] rfl rfl 47 _ HS2.out size_shape rfl (by simp [Value.oneCell']) ?_) | (refine wpList_store_row rfl 47 _ _ rfl w.heap.size #[.int .i64 0, .int .i64 0, .int .i64 0, .int .i64 0, .int .i64 0, .int .i64 0, .int .i64 0, .int .i64 0] rfl rfl 47 _ HS2.out size_shape rfl (by simp [Value.oneCell']) ?_))
      rw [rounds_succ]
      go_wp2_with (first | (refine wpList_store_row rfl 47 _ _ rfl w2.heap.size #[.int .i64 k2', .int .i64 n2', .int .i64 g2', .int .i64 z2', .int .i64 s2', .int .i64 t2', .int .i64 b2', .int .i64 l2'] rfl rfl 47 _ (heap_alloc_new w2 (.cells #[.int .i64 0, .int .i64 0, .int .i64 0, .int .i64 0, .int .i64 0, .int .i64 0, .int .i64 0, .int .i64 0] 47)) size_shape rfl (by simp [Value.oneCell']) ?_; rw [← HV2.out]) | (refine wpList_load_row rfl 47 _ rfl w2.heap.size rfl 47 #[.int .i64 k2', .int .i64 n2', .int .i64 g2', .int .i64 z2', .int .i64 s2', .int .i64 t2', .int .i64 b2', .int .i64 l2'] (0, 0) _ HN2.out Try.underlying47 rfl size_shape ?_) | (refine wpList_store_row rfl 47 _ _ rfl w.heap.size #[.int .i64 k2', .int .i64 n2', .int .i64 g2', .int .i64 z2', .int .i64 s2', .int .i64 t2', .int .i64 b2', .int .i64 l2'] rfl rfl 47 _ HS2.out size_shape rfl (by simp [Value.oneCell']) ?_) | (refine wpList_store_row rfl 47 _ _ rfl w.heap.size #[.int .i64 0, .int .i64 0, .int .i64 0, .int .i64 0, .int .i64 0, .int .i64 0, .int .i64 0, .int .i64 0] rfl rfl 47 _ HS2.out size_shape rfl (by simp [Value.oneCell']) ?_))
      refine bodyPost_ret (v := .tuple #[.agg #[.int .i64 0, .int .i64 0, .int .i64 0, .int .i64 0, .int .i64 0, .int .i64 0, .int .i64 0, .int .i64 0], .int .i64 92]) (results_ct rfl _ _ w.heap.size 47 #[.int .i64 0, .int .i64 0, .int .i64 0, .int .i64 0, .int .i64 0, .int .i64 0, .int .i64 0, .int .i64 0] (0, 0) _ _ rfl rfl (setRow_heap _ _ _ _ _ _ HS2.out) Try.underlying47 rfl size_shape) rfl ⟨rfl, ?_⟩
      exact grownBy_old HT2.out (grownBy_setRow _ _ _) (by omega)
  · have e2 : ¬ ((E1 : Nat) : Int) = 0 := by omega
    clear a1 e1
    go_wp2_with (first | (refine wpList_store_row rfl 47 _ _ rfl w1.heap.size #[.int .i64 k1', .int .i64 n1', .int .i64 g1', .int .i64 z1', .int .i64 s1', .int .i64 t1', .int .i64 b1', .int .i64 l1'] rfl rfl 47 _ (heap_alloc_new w1 (.cells #[.int .i64 0, .int .i64 0, .int .i64 0, .int .i64 0, .int .i64 0, .int .i64 0, .int .i64 0, .int .i64 0] 47)) size_shape rfl (by simp [Value.oneCell']) ?_; rw [← HV1.out]) | (refine wpList_load_row rfl 47 _ rfl w1.heap.size rfl 47 #[.int .i64 k1', .int .i64 n1', .int .i64 g1', .int .i64 z1', .int .i64 s1', .int .i64 t1', .int .i64 b1', .int .i64 l1'] (0, 0) _ HN1.out Try.underlying47 rfl size_shape ?_) | (refine wpList_store_row rfl 47 _ _ rfl w.heap.size #[.int .i64 k1', .int .i64 n1', .int .i64 g1', .int .i64 z1', .int .i64 s1', .int .i64 t1', .int .i64 b1', .int .i64 l1'] rfl rfl 47 _ HS1.out size_shape rfl (by simp [Value.oneCell']) ?_) | (refine wpList_store_row rfl 47 _ _ rfl w.heap.size #[.int .i64 0, .int .i64 0, .int .i64 0, .int .i64 0, .int .i64 0, .int .i64 0, .int .i64 0, .int .i64 0] rfl rfl 47 _ HS1.out size_shape rfl (by simp [Value.oneCell']) ?_))
    rw [rounds_succ]
    go_wp2_with fail
    refine (H2.out _).mono ?_
    rintro e w2 ⟨rfl, g2⟩
    have HR2 := Lib.hid (heap_grown HS1.out g2)
    have HG2 := Lib.hid (grownBy_trans HT1.out g2)
    have hl2 : w.heap.size < w2.heap.size := (Array.getElem?_eq_some_iff.1 HR2.out).1
    clear g2
    obtain ⟨V2, hV2⟩ : ∃ W, W = (w2.alloc (.cells #[.int .i64 0, .int .i64 0, .int .i64 0, .int .i64 0, .int .i64 0, .int .i64 0, .int .i64 0, .int .i64 0] 47)).setRow w2.heap.size #[.int .i64 k2', .int .i64 n2', .int .i64 g2', .int .i64 z2', .int .i64 s2', .int .i64 t2', .int .i64 b2', .int .i64 l2'] := ⟨_, rfl⟩
    have hn2 : V2.heap[w2.heap.size]? = some (.cells #[.int .i64 k2', .int .i64 n2', .int .i64 g2', .int .i64 z2', .int .i64 s2', .int .i64 t2', .int .i64 b2', .int .i64 l2'] 47 (0, 0)) := by rw [hV2]; exact setRow_heap _ _ _ _ _ _ (heap_alloc_new _ _)
    have hr2 : V2.heap[w.heap.size]? = some (.cells #[.int .i64 0, .int .i64 0, .int .i64 0, .int .i64 0, .int .i64 0, .int .i64 0, .int .i64 0, .int .i64 0] 47 (0, 0)) := by rw [hV2]; exact (setRow_other _ w2.heap.size w.heap.size _ (by omega)).trans (heap_grown HR2.out (World.grownBy_alloc _ _ none))
    have hg2 : w.grownBy V2 none := by rw [hV2]; exact grownBy_old (grownBy_trans HG2.out (World.grownBy_alloc _ _ none)) (grownBy_setRow _ w2.heap.size #[.int .i64 k2', .int .i64 n2', .int .i64 g2', .int .i64 z2', .int .i64 s2', .int .i64 t2', .int .i64 b2', .int .i64 l2']) (by omega)
    have c2_2 : V2.cell? ⟨w2.heap.size, 2, none⟩ = some (.int .i64 g2') := by simp only [World.cell?, hn2]; rfl
    have HN2 := Lib.hid hn2
    have HS2 := Lib.hid hr2
    have HT2 := Lib.hid hg2
    have HV2 := Lib.hid hV2
    clear hn2 hr2 hg2 hV2
    by_cases e3 : E2 = 0
    · have e4 : ¬ g2' = seg := fun h => a2 ⟨e3, h⟩
      subst e3
      clear a2
      go_wp2_with (first | (refine wpList_store_row rfl 47 _ _ rfl w2.heap.size #[.int .i64 k2', .int .i64 n2', .int .i64 g2', .int .i64 z2', .int .i64 s2', .int .i64 t2', .int .i64 b2', .int .i64 l2'] rfl rfl 47 _ (heap_alloc_new w2 (.cells #[.int .i64 0, .int .i64 0, .int .i64 0, .int .i64 0, .int .i64 0, .int .i64 0, .int .i64 0, .int .i64 0] 47)) size_shape rfl (by simp [Value.oneCell']) ?_; rw [← HV2.out]) | (refine wpList_load_row rfl 47 _ rfl w2.heap.size rfl 47 #[.int .i64 k2', .int .i64 n2', .int .i64 g2', .int .i64 z2', .int .i64 s2', .int .i64 t2', .int .i64 b2', .int .i64 l2'] (0, 0) _ HN2.out Try.underlying47 rfl size_shape ?_) | (refine wpList_store_row rfl 47 _ _ rfl w.heap.size #[.int .i64 k2', .int .i64 n2', .int .i64 g2', .int .i64 z2', .int .i64 s2', .int .i64 t2', .int .i64 b2', .int .i64 l2'] rfl rfl 47 _ HS2.out size_shape rfl (by simp [Value.oneCell']) ?_) | (refine wpList_store_row rfl 47 _ _ rfl w.heap.size #[.int .i64 0, .int .i64 0, .int .i64 0, .int .i64 0, .int .i64 0, .int .i64 0, .int .i64 0, .int .i64 0] rfl rfl 47 _ HS2.out size_shape rfl (by simp [Value.oneCell']) ?_))
      rw [rounds_succ]
      go_wp2_with (first | (refine wpList_store_row rfl 47 _ _ rfl w2.heap.size #[.int .i64 k2', .int .i64 n2', .int .i64 g2', .int .i64 z2', .int .i64 s2', .int .i64 t2', .int .i64 b2', .int .i64 l2'] rfl rfl 47 _ (heap_alloc_new w2 (.cells #[.int .i64 0, .int .i64 0, .int .i64 0, .int .i64 0, .int .i64 0, .int .i64 0, .int .i64 0, .int .i64 0] 47)) size_shape rfl (by simp [Value.oneCell']) ?_; rw [← HV2.out]) | (refine wpList_load_row rfl 47 _ rfl w2.heap.size rfl 47 #[.int .i64 k2', .int .i64 n2', .int .i64 g2', .int .i64 z2', .int .i64 s2', .int .i64 t2', .int .i64 b2', .int .i64 l2'] (0, 0) _ HN2.out Try.underlying47 rfl size_shape ?_) | (refine wpList_store_row rfl 47 _ _ rfl w.heap.size #[.int .i64 k2', .int .i64 n2', .int .i64 g2', .int .i64 z2', .int .i64 s2', .int .i64 t2', .int .i64 b2', .int .i64 l2'] rfl rfl 47 _ HS2.out size_shape rfl (by simp [Value.oneCell']) ?_) | (refine wpList_store_row rfl 47 _ _ rfl w.heap.size #[.int .i64 0, .int .i64 0, .int .i64 0, .int .i64 0, .int .i64 0, .int .i64 0, .int .i64 0, .int .i64 0] rfl rfl 47 _ HS2.out size_shape rfl (by simp [Value.oneCell']) ?_))
      refine bodyPost_ret (v := .tuple #[.agg #[.int .i64 0, .int .i64 0, .int .i64 0, .int .i64 0, .int .i64 0, .int .i64 0, .int .i64 0, .int .i64 0], .int .i64 92]) (results_ct rfl _ _ w.heap.size 47 #[.int .i64 0, .int .i64 0, .int .i64 0, .int .i64 0, .int .i64 0, .int .i64 0, .int .i64 0, .int .i64 0] (0, 0) _ _ rfl rfl (setRow_heap _ _ _ _ _ _ HS2.out) Try.underlying47 rfl size_shape) rfl ⟨rfl, ?_⟩
      exact grownBy_old HT2.out (grownBy_setRow _ _ _) (by omega)
    · have e4 : ¬ ((E2 : Nat) : Int) = 0 := by omega
      clear a2 e3
      go_wp2_with (first | (refine wpList_store_row rfl 47 _ _ rfl w2.heap.size #[.int .i64 k2', .int .i64 n2', .int .i64 g2', .int .i64 z2', .int .i64 s2', .int .i64 t2', .int .i64 b2', .int .i64 l2'] rfl rfl 47 _ (heap_alloc_new w2 (.cells #[.int .i64 0, .int .i64 0, .int .i64 0, .int .i64 0, .int .i64 0, .int .i64 0, .int .i64 0, .int .i64 0] 47)) size_shape rfl (by simp [Value.oneCell']) ?_; rw [← HV2.out]) | (refine wpList_load_row rfl 47 _ rfl w2.heap.size rfl 47 #[.int .i64 k2', .int .i64 n2', .int .i64 g2', .int .i64 z2', .int .i64 s2', .int .i64 t2', .int .i64 b2', .int .i64 l2'] (0, 0) _ HN2.out Try.underlying47 rfl size_shape ?_) | (refine wpList_store_row rfl 47 _ _ rfl w.heap.size #[.int .i64 k2', .int .i64 n2', .int .i64 g2', .int .i64 z2', .int .i64 s2', .int .i64 t2', .int .i64 b2', .int .i64 l2'] rfl rfl 47 _ HS2.out size_shape rfl (by simp [Value.oneCell']) ?_) | (refine wpList_store_row rfl 47 _ _ rfl w.heap.size #[.int .i64 0, .int .i64 0, .int .i64 0, .int .i64 0, .int .i64 0, .int .i64 0, .int .i64 0, .int .i64 0] rfl rfl 47 _ HS2.out size_shape rfl (by simp [Value.oneCell']) ?_))
      rw [rounds_succ]
      go_wp2_with (first | (refine wpList_store_row rfl 47 _ _ rfl w2.heap.size #[.int .i64 k2', .int .i64 n2', .int .i64 g2', .int .i64 z2', .int .i64 s2', .int .i64 t2', .int .i64 b2', .int .i64 l2'] rfl rfl 47 _ (heap_alloc_new w2 (.cells #[.int .i64 0, .int .i64 0, .int .i64 0, .int .i64 0, .int .i64 0, .int .i64 0, .int .i64 0, .int .i64 0] 47)) size_shape rfl (by simp [Value.oneCell']) ?_; rw [← HV2.out]) | (refine wpList_load_row rfl 47 _ rfl w2.heap.size rfl 47 #[.int .i64 k2', .int .i64 n2', .int .i64 g2', .int .i64 z2', .int .i64 s2', .int .i64 t2', .int .i64 b2', .int .i64 l2'] (0, 0) _ HN2.out Try.underlying47 rfl size_shape ?_) | (refine wpList_store_row rfl 47 _ _ rfl w.heap.size #[.int .i64 k2', .int .i64 n2', .int .i64 g2', .int .i64 z2', .int .i64 s2', .int .i64 t2', .int .i64 b2', .int .i64 l2'] rfl rfl 47 _ HS2.out size_shape rfl (by simp [Value.oneCell']) ?_) | (refine wpList_store_row rfl 47 _ _ rfl w.heap.size #[.int .i64 0, .int .i64 0, .int .i64 0, .int .i64 0, .int .i64 0, .int .i64 0, .int .i64 0, .int .i64 0] rfl rfl 47 _ HS2.out size_shape rfl (by simp [Value.oneCell']) ?_))
      refine bodyPost_ret (v := .tuple #[.agg #[.int .i64 0, .int .i64 0, .int .i64 0, .int .i64 0, .int .i64 0, .int .i64 0, .int .i64 0, .int .i64 0], .int .i64 92]) (results_ct rfl _ _ w.heap.size 47 #[.int .i64 0, .int .i64 0, .int .i64 0, .int .i64 0, .int .i64 0, .int .i64 0, .int .i64 0, .int .i64 0] (0, 0) _ _ rfl rfl (setRow_heap _ _ _ _ _ _ HS2.out) Try.underlying47 rfl size_shape) rfl ⟨rfl, ?_⟩
      exact grownBy_old HT2.out (grownBy_setRow _ _ _) (by omega)


end Go.Proofs.Ytfboddnpkaiifaa
