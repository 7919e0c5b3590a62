/- the document's Again, Fits. -/
import Derived.Test.YtfboddnpkaiifaaCutRefAgain
namespace Go.Proofs.Ytfboddnpkaiifaa
open Go.RowKit

theorem refAgain_n (k n seg z : Int) (w : World) :
    Calls Try.prog 35 #[.int .i64 k, .int .i64 n, .int .i64 seg, .int .i64 z] w fun e w' => e = .returned (.tuple #[(agS k n seg z).val, .int .i64 (agE k n seg z : Nat)]) ∧ w.grownBy w' none := by
  have h1 := fun w => refShape_t k n seg 0 z none 0 0 w
  have h2 := fun w => refShape_t k n 65536 0 z none 0 0 w
  unfold prV at h1 h2
  by_cases a1 : shE k n seg 0 z = 0 ∧ (shS k n seg 0 z).seg = seg
  · obtain ⟨e1, e2⟩ := ag_first a1.1 a1.2
    rw [e1, e2]
    exact refAgain_a k n seg z _ _ _ _ w h1 h2 a1.1 a1.2
  · by_cases a2 : shE k n 65536 0 z = 0 ∧ (shS k n 65536 0 z).seg = seg
    · obtain ⟨e1, e2⟩ := ag_second a2.1 a2.2
      rw [e1, e2]
      exact refAgain_b k n seg z _ _ _ _ w h1 h2 a1 a2.1 a2.2
    · have h0 : agE k n seg z ≠ 0 := fun h => (ag_some h).elim a1 a2
      have hS : agS k n seg z = noSh := by unfold agS; rw [if_neg h0]
      rw [hS, agE_not h0]
      exact refAgain_c k n seg z _ _ _ _ w h1 h2 a1 a2

set_option maxRecDepth 100000 in
set_option maxHeartbeats 2000000 in
theorem refFits_n (s : Sh) (hs : s.Wf) (w : World) : Calls Try.prog 37 #[s.val] w fun e w' => e = .returned (.bool (decide (fits s))) ∧ w.grownBy w' none := by
  have ha := fun w => refAgain_n s.k s.n s.seg s.size w
  have hq := fun w => (eq_sh hs (ag_wf s.k s.n s.seg s.size) w).1
  have hres := fits_dec s
  rw [hres]
  generalize agS s.k s.n s.seg s.size = T at ha hq hres ⊢
  generalize agE s.k s.n s.seg s.size = E at ha hq hres ⊢
  generalize hc : decide (s = T) = c at hq hres ⊢
  clear hc hres
  obtain ⟨k, n, g, z, sg, t, b, l⟩ := s
  obtain ⟨k', n', g', z', sg', t', b', l'⟩ := T
  have HA := Lib.hid ha
  have hq' : ∀ w, (binOp .eql 47 (.agg #[.int .i64 k, .int .i64 n, .int .i64 g, .int .i64 z, .int .i64 sg, .int .i64 t, .int .i64 b, .int .i64 l]) (.agg #[.int .i64 k', .int .i64 n', .int .i64 g', .int .i64 z', .int .i64 sg', .int .i64 t', .int .i64 b', .int .i64 l'])).run Try.prog w = .ok (.bool c) w := hq
  have hgu := eq_guard_sh
  clear ha hq hs
  show Calls Try.prog 37 #[.agg #[.int .i64 k, .int .i64 n, .int .i64 g, .int .i64 z, .int .i64 sg, .int .i64 t, .int .i64 b, .int .i64 l]] w _
  go_enter Try.func37, Try.ntmps37
  go_wp2_with fail
  refine (HA.out _).mono ?_
  rintro e w1 ⟨rfl, hg⟩
  have hp := heap_grown (heap_alloc_new w (.cells #[.int .i64 k, .int .i64 n, .int .i64 g, .int .i64 z, .int .i64 sg, .int .i64 t, .int .i64 b, .int .i64 l] 47)) hg
  have hg0 := grownBy_trans (World.grownBy_alloc w (.cells #[.int .i64 k, .int .i64 n, .int .i64 g, .int .i64 z, .int .i64 sg, .int .i64 t, .int .i64 b, .int .i64 l] 47) none) hg
  have hl1 : w.heap.size < w1.heap.size := (Array.getElem?_eq_some_iff.1 hp).1
  have HG0 := Lib.hid hg0
  have HP := Lib.hid hp
  clear hg hg0 hp
  have HN := Lib.hid (heap_alloc_new w1 (.cells #[.int .i64 0, .int .i64 0, .int .i64 0, .int .i64 0, .int .i64 0, .int .i64 0, .int .i64 0, .int .i64 0] 47))
  have HP2 := Lib.hid (heap_grown HP.out (World.grownBy_alloc w1 (.cells #[.int .i64 0, .int .i64 0, .int .i64 0, .int .i64 0, .int .i64 0, .int .i64 0, .int .i64 0, .int .i64 0] 47) none))
  have HG2 := Lib.hid (grownBy_trans HG0.out (World.grownBy_alloc w1 (.cells #[.int .i64 0, .int .i64 0, .int .i64 0, .int .i64 0, .int .i64 0, .int .i64 0, .int .i64 0, .int .i64 0] 47) none))
  obtain ⟨W, hW⟩ : ∃ W, W = (w1.alloc (.cells #[.int .i64 0, .int .i64 0, .int .i64 0, .int .i64 0, .int .i64 0, .int .i64 0, .int .i64 0, .int .i64 0] 47)).setRow w1.heap.size #[.int .i64 k', .int .i64 n', .int .i64 g', .int .i64 z', .int .i64 sg', .int .i64 t', .int .i64 b', .int .i64 l'] := ⟨_, rfl⟩
  have hg1 := grownBy_old HG2.out (grownBy_setRow _ w1.heap.size #[.int .i64 k', .int .i64 n', .int .i64 g', .int .i64 z', .int .i64 sg', .int .i64 t', .int .i64 b', .int .i64 l']) (by omega)
  have hn1 : ((w1.alloc (.cells #[.int .i64 0, .int .i64 0, .int .i64 0, .int .i64 0, .int .i64 0, .int .i64 0, .int .i64 0, .int .i64 0] 47)).setRow w1.heap.size #[.int .i64 k', .int .i64 n', .int .i64 g', .int .i64 z', .int .i64 sg', .int .i64 t', .int .i64 b', .int .i64 l']).heap[w1.heap.size]? = some (.cells #[.int .i64 k', .int .i64 n', .int .i64 g', .int .i64 z', .int .i64 sg', .int .i64 t', .int .i64 b', .int .i64 l'] 47 (0, 0)) := setRow_heap _ _ _ _ _ _ HN.out
  have hr1 : ((w1.alloc (.cells #[.int .i64 0, .int .i64 0, .int .i64 0, .int .i64 0, .int .i64 0, .int .i64 0, .int .i64 0, .int .i64 0] 47)).setRow w1.heap.size #[.int .i64 k', .int .i64 n', .int .i64 g', .int .i64 z', .int .i64 sg', .int .i64 t', .int .i64 b', .int .i64 l']).heap[w.heap.size]? = some (.cells #[.int .i64 k, .int .i64 n, .int .i64 g, .int .i64 z, .int .i64 sg, .int .i64 t, .int .i64 b, .int .i64 l] 47 (0, 0)) := (setRow_other _ w1.heap.size w.heap.size _ (by omega)).trans HP2.out
  rw [← hW] at hg1 hn1 hr1
  have HGG := Lib.hid hg1
  have HN1 := Lib.hid hn1
  have HRR := Lib.hid hr1
  have HW := Lib.hid hW
  clear hg1 hn1 hr1 hW
  by_cases hE : E = 0
  · subst hE
    have hE' : ((0 : Nat) : Int) = 0 := rfl
    go_wp2_with (first | (refine wpList_store_row rfl 47 _ _ rfl w1.heap.size #[.int .i64 k', .int .i64 n', .int .i64 g', .int .i64 z', .int .i64 sg', .int .i64 t', .int .i64 b', .int .i64 l'] rfl rfl 47 _ HN.out size_shape rfl (by simp [Value.oneCell']) ?_; rw [← HW.out]) | (refine wpList_load_rowW (by rfl) 47 _ rfl w1.heap.size rfl 47 #[.int .i64 k', .int .i64 n', .int .i64 g', .int .i64 z', .int .i64 sg', .int .i64 t', .int .i64 b', .int .i64 l'] (0, 0) _ HN1.out Try.underlying47 rfl size_shape ?_) | (refine wpList_load_rowW (by rfl) 47 _ rfl w.heap.size rfl 47 #[.int .i64 k, .int .i64 n, .int .i64 g, .int .i64 z, .int .i64 sg, .int .i64 t, .int .i64 b, .int .i64 l] (0, 0) _ HRR.out Try.underlying47 rfl size_shape ?_))
    go_ret
    exact ⟨by simp, HGG.out⟩
  · have hE' : ¬ (E : Int) = 0 := by omega
    go_wp2_with (first | (refine wpList_store_row rfl 47 _ _ rfl w1.heap.size #[.int .i64 k', .int .i64 n', .int .i64 g', .int .i64 z', .int .i64 sg', .int .i64 t', .int .i64 b', .int .i64 l'] rfl rfl 47 _ HN.out size_shape rfl (by simp [Value.oneCell']) ?_; rw [← HW.out]))
    go_ret
    exact ⟨by simp [hE], HGG.out⟩

end Go.Proofs.Ytfboddnpkaiifaa
