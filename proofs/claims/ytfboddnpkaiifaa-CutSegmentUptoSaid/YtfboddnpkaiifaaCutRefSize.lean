/- the document's size, SegSize, BlockSize. -/
import Derived.Test.YtfboddnpkaiifaaCutRefCover
namespace Go.Proofs.Ytfboddnpkaiifaa
open Go.RowKit

set_option maxRecDepth 100000 in
set_option maxHeartbeats 4000000 in
theorem refSize_n (s : Sh) (hs : s.Wf) (j : Int) (w : World) : Calls Try.prog 58 #[s.val, .int .i64 j] w fun e w' => e = .returned (.tuple #[.int .i64 (szV s j s.seg s.tail), .int .i64 (szV s j s.block s.last), .int .i64 (szE s j : Nat)]) ∧ w.grownBy w' none := by
  have hf := refFits_n s hs
  have hsw := hs.segs
  by_cases hfit : fits s
  · simp only [hfit, decide_true] at hf
    have HF := Lib.hid hf
    clear hf
    by_cases h1 : j < 0
    · have hr := sz_out (j := j) (u := s.seg) (l := s.tail) hfit (fun h => by omega)
      have hr2 := sz_out (j := j) (u := s.block) (l := s.last) hfit (fun h => by omega)
      rw [hr.1, hr.2, hr2.2]
      clear hr hr2 hfit hs
      obtain ⟨k, n, g, z, sg, t, b, l⟩ := s
      unfold Sh.val at HF ⊢
      go_enter Try.func58, Try.ntmps58
      have HP0 := Lib.hid (heap_alloc_new w (.cells #[.int .i64 k, .int .i64 n, .int .i64 g, .int .i64 z, .int .i64 sg, .int .i64 t, .int .i64 b, .int .i64 l] 47))
      go_wp2_with (first | (refine wpList_load_row rfl 47 _ rfl w.heap.size rfl 47 #[.int .i64 k, .int .i64 n, .int .i64 g, .int .i64 z, .int .i64 sg, .int .i64 t, .int .i64 b, .int .i64 l] (0, 0) _ HP0.out Try.underlying47 rfl size_shape ?_))
      refine (HF.out _).mono ?_
      rintro e w1 ⟨rfl, hg⟩
      have hp := heap_grown HP0.out hg
      have hg0 := grownBy_trans (World.grownBy_alloc w (.cells #[.int .i64 k, .int .i64 n, .int .i64 g, .int .i64 z, .int .i64 sg, .int .i64 t, .int .i64 b, .int .i64 l] 47) none) hg
      have c2 : w1.cell? ⟨w.heap.size, 2, none⟩ = some (.int .i64 g) := by simp only [World.cell?, hp]; rfl
      have c3 : w1.cell? ⟨w.heap.size, 3, none⟩ = some (.int .i64 z) := by simp only [World.cell?, hp]; rfl
      have c4 : w1.cell? ⟨w.heap.size, 4, none⟩ = some (.int .i64 sg) := by simp only [World.cell?, hp]; rfl
      have c5 : w1.cell? ⟨w.heap.size, 5, none⟩ = some (.int .i64 t) := by simp only [World.cell?, hp]; rfl
      have c6 : w1.cell? ⟨w.heap.size, 6, none⟩ = some (.int .i64 b) := by simp only [World.cell?, hp]; rfl
      have c7 : w1.cell? ⟨w.heap.size, 7, none⟩ = some (.int .i64 l) := by simp only [World.cell?, hp]; rfl
      have HG0 := Lib.hid hg0
      clear hg hg0 hp HP0
      go_wp2_with fail
      (try simp only [Exit.inBlock, Exit.then])
      refine bodyPost_ret (by simp [*, results, Try.results58, go_sem]; try rfl) rfl ?_
      exact ⟨rfl, HG0.out⟩
    · by_cases h2 : s.segs ≤ j
      · have hr := sz_out (j := j) (u := s.seg) (l := s.tail) hfit (fun h => by omega)
        have hr2 := sz_out (j := j) (u := s.block) (l := s.last) hfit (fun h => by omega)
        rw [hr.1, hr.2, hr2.2]
        clear hr hr2 hfit hs
        obtain ⟨k, n, g, z, sg, t, b, l⟩ := s
        simp only at h2
        unfold Sh.val at HF ⊢
        go_enter Try.func58, Try.ntmps58
        have HP0 := Lib.hid (heap_alloc_new w (.cells #[.int .i64 k, .int .i64 n, .int .i64 g, .int .i64 z, .int .i64 sg, .int .i64 t, .int .i64 b, .int .i64 l] 47))
        go_wp2_with (first | (refine wpList_load_row rfl 47 _ rfl w.heap.size rfl 47 #[.int .i64 k, .int .i64 n, .int .i64 g, .int .i64 z, .int .i64 sg, .int .i64 t, .int .i64 b, .int .i64 l] (0, 0) _ HP0.out Try.underlying47 rfl size_shape ?_))
        refine (HF.out _).mono ?_
        rintro e w1 ⟨rfl, hg⟩
        have hp := heap_grown HP0.out hg
        have hg0 := grownBy_trans (World.grownBy_alloc w (.cells #[.int .i64 k, .int .i64 n, .int .i64 g, .int .i64 z, .int .i64 sg, .int .i64 t, .int .i64 b, .int .i64 l] 47) none) hg
        have c2 : w1.cell? ⟨w.heap.size, 2, none⟩ = some (.int .i64 g) := by simp only [World.cell?, hp]; rfl
        have c3 : w1.cell? ⟨w.heap.size, 3, none⟩ = some (.int .i64 z) := by simp only [World.cell?, hp]; rfl
        have c4 : w1.cell? ⟨w.heap.size, 4, none⟩ = some (.int .i64 sg) := by simp only [World.cell?, hp]; rfl
        have c5 : w1.cell? ⟨w.heap.size, 5, none⟩ = some (.int .i64 t) := by simp only [World.cell?, hp]; rfl
        have c6 : w1.cell? ⟨w.heap.size, 6, none⟩ = some (.int .i64 b) := by simp only [World.cell?, hp]; rfl
        have c7 : w1.cell? ⟨w.heap.size, 7, none⟩ = some (.int .i64 l) := by simp only [World.cell?, hp]; rfl
        have HG0 := Lib.hid hg0
        clear hg hg0 hp HP0
        go_wp2_with fail
        (try simp only [Exit.inBlock, Exit.then])
        refine bodyPost_ret (by simp [*, results, Try.results58, go_sem]; try rfl) rfl ?_
        exact ⟨rfl, HG0.out⟩
      · have hr := sz_in (j := j) (u := s.seg) (l := s.tail) hfit (by omega)
        have hr2 := sz_in (j := j) (u := s.block) (l := s.last) hfit (by omega)
        have hw : IntKind.i64.wrap (s.segs - 1) = s.segs - 1 := IntWalk.i64_in _ (by unfold i64ok at hsw; omega)
        rw [hr.1, hr.2, hr2.2]
        clear hr hr2 hfit hs
        obtain ⟨k, n, g, z, sg, t, b, l⟩ := s
        simp only at h2 hw
        unfold Sh.val at HF ⊢
        by_cases h3 : j = sg - 1
        · rw [if_pos h3, if_pos h3]
          subst h3
          go_enter Try.func58, Try.ntmps58
          have HP0 := Lib.hid (heap_alloc_new w (.cells #[.int .i64 k, .int .i64 n, .int .i64 g, .int .i64 z, .int .i64 sg, .int .i64 t, .int .i64 b, .int .i64 l] 47))
          go_wp2_with (first | (refine wpList_load_row rfl 47 _ rfl w.heap.size rfl 47 #[.int .i64 k, .int .i64 n, .int .i64 g, .int .i64 z, .int .i64 sg, .int .i64 t, .int .i64 b, .int .i64 l] (0, 0) _ HP0.out Try.underlying47 rfl size_shape ?_))
          refine (HF.out _).mono ?_
          rintro e w1 ⟨rfl, hg⟩
          have hp := heap_grown HP0.out hg
          have hg0 := grownBy_trans (World.grownBy_alloc w (.cells #[.int .i64 k, .int .i64 n, .int .i64 g, .int .i64 z, .int .i64 sg, .int .i64 t, .int .i64 b, .int .i64 l] 47) none) hg
          have c2 : w1.cell? ⟨w.heap.size, 2, none⟩ = some (.int .i64 g) := by simp only [World.cell?, hp]; rfl
          have c3 : w1.cell? ⟨w.heap.size, 3, none⟩ = some (.int .i64 z) := by simp only [World.cell?, hp]; rfl
          have c4 : w1.cell? ⟨w.heap.size, 4, none⟩ = some (.int .i64 sg) := by simp only [World.cell?, hp]; rfl
          have c5 : w1.cell? ⟨w.heap.size, 5, none⟩ = some (.int .i64 t) := by simp only [World.cell?, hp]; rfl
          have c6 : w1.cell? ⟨w.heap.size, 6, none⟩ = some (.int .i64 b) := by simp only [World.cell?, hp]; rfl
          have c7 : w1.cell? ⟨w.heap.size, 7, none⟩ = some (.int .i64 l) := by simp only [World.cell?, hp]; rfl
          have HG0 := Lib.hid hg0
          clear hg hg0 hp HP0
          go_wp2_with fail
          go_quiet (fail)
          go_wp2_with fail
          (try simp only [Exit.inBlock, Exit.then])
          refine bodyPost_ret (by simp [*, results, Try.results58, go_sem]; try rfl) rfl ?_
          exact ⟨rfl, grownBy_trans HG0.out (grownBy_drewN _ _ none)⟩
        · rw [if_neg h3, if_neg h3]
          go_enter Try.func58, Try.ntmps58
          have HP0 := Lib.hid (heap_alloc_new w (.cells #[.int .i64 k, .int .i64 n, .int .i64 g, .int .i64 z, .int .i64 sg, .int .i64 t, .int .i64 b, .int .i64 l] 47))
          go_wp2_with (first | (refine wpList_load_row rfl 47 _ rfl w.heap.size rfl 47 #[.int .i64 k, .int .i64 n, .int .i64 g, .int .i64 z, .int .i64 sg, .int .i64 t, .int .i64 b, .int .i64 l] (0, 0) _ HP0.out Try.underlying47 rfl size_shape ?_))
          refine (HF.out _).mono ?_
          rintro e w1 ⟨rfl, hg⟩
          have hp := heap_grown HP0.out hg
          have hg0 := grownBy_trans (World.grownBy_alloc w (.cells #[.int .i64 k, .int .i64 n, .int .i64 g, .int .i64 z, .int .i64 sg, .int .i64 t, .int .i64 b, .int .i64 l] 47) none) hg
          have c2 : w1.cell? ⟨w.heap.size, 2, none⟩ = some (.int .i64 g) := by simp only [World.cell?, hp]; rfl
          have c3 : w1.cell? ⟨w.heap.size, 3, none⟩ = some (.int .i64 z) := by simp only [World.cell?, hp]; rfl
          have c4 : w1.cell? ⟨w.heap.size, 4, none⟩ = some (.int .i64 sg) := by simp only [World.cell?, hp]; rfl
          have c5 : w1.cell? ⟨w.heap.size, 5, none⟩ = some (.int .i64 t) := by simp only [World.cell?, hp]; rfl
          have c6 : w1.cell? ⟨w.heap.size, 6, none⟩ = some (.int .i64 b) := by simp only [World.cell?, hp]; rfl
          have c7 : w1.cell? ⟨w.heap.size, 7, none⟩ = some (.int .i64 l) := by simp only [World.cell?, hp]; rfl
          have HG0 := Lib.hid hg0
          clear hg hg0 hp HP0
          go_wp2_with fail
          go_quiet (fail)
          go_wp2_with fail
          (try simp only [Exit.inBlock, Exit.then])
          refine bodyPost_ret (by simp [*, results, Try.results58, go_sem]; try rfl) rfl ?_
          exact ⟨rfl, grownBy_trans HG0.out (grownBy_drewN _ _ none)⟩
  · simp only [hfit, decide_false] at hf
    have HF := Lib.hid hf
    clear hf
    have hr := sz_no (j := j) (u := s.seg) (l := s.tail) hfit
    have hr2 := sz_no (j := j) (u := s.block) (l := s.last) hfit
    rw [hr.1, hr.2, hr2.2]
    clear hr hr2 hfit hs
    obtain ⟨k, n, g, z, sg, t, b, l⟩ := s
    unfold Sh.val at HF ⊢
    go_enter Try.func58, Try.ntmps58
    have HP0 := Lib.hid (heap_alloc_new w (.cells #[.int .i64 k, .int .i64 n, .int .i64 g, .int .i64 z, .int .i64 sg, .int .i64 t, .int .i64 b, .int .i64 l] 47))
    go_wp2_with (first | (refine wpList_load_row rfl 47 _ rfl w.heap.size rfl 47 #[.int .i64 k, .int .i64 n, .int .i64 g, .int .i64 z, .int .i64 sg, .int .i64 t, .int .i64 b, .int .i64 l] (0, 0) _ HP0.out Try.underlying47 rfl size_shape ?_))
    refine (HF.out _).mono ?_
    rintro e w1 ⟨rfl, hg⟩
    have hp := heap_grown HP0.out hg
    have hg0 := grownBy_trans (World.grownBy_alloc w (.cells #[.int .i64 k, .int .i64 n, .int .i64 g, .int .i64 z, .int .i64 sg, .int .i64 t, .int .i64 b, .int .i64 l] 47) none) hg
    have c2 : w1.cell? ⟨w.heap.size, 2, none⟩ = some (.int .i64 g) := by simp only [World.cell?, hp]; rfl
    have c3 : w1.cell? ⟨w.heap.size, 3, none⟩ = some (.int .i64 z) := by simp only [World.cell?, hp]; rfl
    have c4 : w1.cell? ⟨w.heap.size, 4, none⟩ = some (.int .i64 sg) := by simp only [World.cell?, hp]; rfl
    have c5 : w1.cell? ⟨w.heap.size, 5, none⟩ = some (.int .i64 t) := by simp only [World.cell?, hp]; rfl
    have c6 : w1.cell? ⟨w.heap.size, 6, none⟩ = some (.int .i64 b) := by simp only [World.cell?, hp]; rfl
    have c7 : w1.cell? ⟨w.heap.size, 7, none⟩ = some (.int .i64 l) := by simp only [World.cell?, hp]; rfl
    have HG0 := Lib.hid hg0
    clear hg hg0 hp HP0
    go_wp2_with fail
    (try simp only [Exit.inBlock, Exit.then])
    refine bodyPost_ret (by simp [*, results, Try.results58, go_sem]; try rfl) rfl ?_
    exact ⟨rfl, HG0.out⟩

set_option maxRecDepth 100000 in
set_option maxHeartbeats 4000000 in
theorem refSegSize_n (s : Sh) (hs : s.Wf) (j : Int) (w : World) : Calls Try.prog 42 #[s.val, .int .i64 j] w fun e w' => e = .returned (.tuple #[.int .i64 (szV s j s.seg s.tail), .int .i64 (szE s j : Nat)]) ∧ w.grownBy w' none := by
  have hf := refSize_n s hs j
  generalize szV s j s.seg s.tail = V1 at hf ⊢
  generalize szV s j s.block s.last = V2 at hf ⊢
  generalize szE s j = E at hf ⊢
  clear hs
  obtain ⟨k, n, g, z, sg, t, b, l⟩ := s
  unfold Sh.val at hf ⊢
  have HF := Lib.hid hf
  clear hf
  go_enter Try.func42, Try.ntmps42
  have HP0 := Lib.hid (heap_alloc_new w (.cells #[.int .i64 k, .int .i64 n, .int .i64 g, .int .i64 z, .int .i64 sg, .int .i64 t, .int .i64 b, .int .i64 l] 47))
  go_wp2_with (first | (refine wpList_load_row rfl 47 _ rfl w.heap.size rfl 47 #[.int .i64 k, .int .i64 n, .int .i64 g, .int .i64 z, .int .i64 sg, .int .i64 t, .int .i64 b, .int .i64 l] (0, 0) _ HP0.out Try.underlying47 rfl size_shape ?_))
  refine (HF.out _).mono ?_
  rintro e w1 ⟨rfl, hg⟩
  have HG0 := Lib.hid (grownBy_trans (World.grownBy_alloc w (.cells #[.int .i64 k, .int .i64 n, .int .i64 g, .int .i64 z, .int .i64 sg, .int .i64 t, .int .i64 b, .int .i64 l] 47) none) hg)
  clear hg HP0
  go_wp2_with fail
  (try simp only [Exit.inBlock, Exit.then])
  refine bodyPost_ret (by simp [*, results, Try.results42, go_sem]; try rfl) rfl ?_
  exact ⟨rfl, HG0.out⟩

set_option maxRecDepth 100000 in
set_option maxHeartbeats 4000000 in
theorem refBlockSize_n (s : Sh) (hs : s.Wf) (j : Int) (w : World) : Calls Try.prog 43 #[s.val, .int .i64 j] w fun e w' => e = .returned (.tuple #[.int .i64 (szV s j s.block s.last), .int .i64 (szE s j : Nat)]) ∧ w.grownBy w' none := by
  have hf := refSize_n s hs j
  generalize szV s j s.seg s.tail = V1 at hf ⊢
  generalize szV s j s.block s.last = V2 at hf ⊢
  generalize szE s j = E at hf ⊢
  clear hs
  obtain ⟨k, n, g, z, sg, t, b, l⟩ := s
  unfold Sh.val at hf ⊢
  have HF := Lib.hid hf
  clear hf
  go_enter Try.func43, Try.ntmps43
  have HP0 := Lib.hid (heap_alloc_new w (.cells #[.int .i64 k, .int .i64 n, .int .i64 g, .int .i64 z, .int .i64 sg, .int .i64 t, .int .i64 b, .int .i64 l] 47))
  go_wp2_with (first | (refine wpList_load_row rfl 47 _ rfl w.heap.size rfl 47 #[.int .i64 k, .int .i64 n, .int .i64 g, .int .i64 z, .int .i64 sg, .int .i64 t, .int .i64 b, .int .i64 l] (0, 0) _ HP0.out Try.underlying47 rfl size_shape ?_))
  refine (HF.out _).mono ?_
  rintro e w1 ⟨rfl, hg⟩
  have HG0 := Lib.hid (grownBy_trans (World.grownBy_alloc w (.cells #[.int .i64 k, .int .i64 n, .int .i64 g, .int .i64 z, .int .i64 sg, .int .i64 t, .int .i64 b, .int .i64 l] 47) none) hg)
  clear hg HP0
  go_wp2_with fail
  (try simp only [Exit.inBlock, Exit.then])
  refine bodyPost_ret (by simp [*, results, Try.results43, go_sem]; try rfl) rfl ?_
  exact ⟨rfl, HG0.out⟩

end Go.Proofs.Ytfboddnpkaiifaa
