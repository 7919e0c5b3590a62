/- cut: size, SegSize, BlockSize, Cover. -/
import Derived.Test.YtfboddnpkaiifaaCutFitsW
namespace Go.Proofs.Ytfboddnpkaiifaa
open Go.RowKit

theorem sz_no {s : Sh} {j u l : Int} (h : ¬ fits s) : szE s j = 92 ∧ szV s j u l = 0 := by
  have h0 : szE s j = 92 := by unfold szE; rw [if_neg h]
  exact ⟨h0, by unfold szV; rw [h0]; rfl⟩
theorem sz_out {s : Sh} {j u l : Int} (h : fits s) (hj : ¬ (0 ≤ j ∧ j < s.segs)) : szE s j = 90 ∧ szV s j u l = 0 := by
  have h0 : szE s j = 90 := by unfold szE; rw [if_pos h, if_neg hj]
  exact ⟨h0, by unfold szV; rw [h0]; rfl⟩
theorem sz_in {s : Sh} {j u l : Int} (h : fits s) (hj : 0 ≤ j ∧ j < s.segs) : szE s j = 0 ∧ szV s j u l = if j = s.segs - 1 then l else u := by
  have h0 : szE s j = 0 := by unfold szE; rw [if_pos h, if_pos hj]
  exact ⟨h0, by unfold szV; rw [if_pos h0]⟩

set_option maxRecDepth 100000 in
set_option maxHeartbeats 4000000 in
theorem size_n (s : Sh) (hs : s.Wf) (j us la : Int) (w : World) : Calls Try.prog 57 #[s.val, .int .i64 j, .int .i64 us, .int .i64 la] w fun e w' => e = .returned (.tuple #[.int .i64 (szV s j us la), .int .i64 (szE s j : Nat)]) ∧ w.grownBy w' none := by
  have hf := fits_n s hs
  have hsw := hs.segs
  by_cases hfit : fits s
  · simp only [hfit, decide_true] at hf
    have HF := Lib.hid hf
    clear hf
    by_cases h1 : j < 0
    · have hr := sz_out (j := j) (u := us) (l := la) hfit (fun h => by omega)
      rw [hr.1, hr.2]
      clear hr hfit hs
      obtain ⟨k, n, g, z, sg, t, b, l⟩ := s
      unfold Sh.val at HF ⊢
      go_enter Try.func57, Try.ntmps57
      have HP0 := Lib.hid (heap_alloc_new w (.cells #[.int .i64 k, .int .i64 n, .int .i64 g, .int .i64 z, .int .i64 sg, .int .i64 t, .int .i64 b, .int .i64 l] 47))
      go_wp2_with (first | (refine wpList_load_row rfl 47 _ rfl w.heap.size rfl 47 #[.int .i64 k, .int .i64 n, .int .i64 g, .int .i64 z, .int .i64 sg, .int .i64 t, .int .i64 b, .int .i64 l] (0, 0) _ HP0.out Try.underlying47 rfl size_shape ?_))
      refine (HF.out _).mono ?_
      rintro e w1 ⟨rfl, hg⟩
      have hp := heap_grown HP0.out hg
      have hg0 := grownBy_trans (World.grownBy_alloc w (.cells #[.int .i64 k, .int .i64 n, .int .i64 g, .int .i64 z, .int .i64 sg, .int .i64 t, .int .i64 b, .int .i64 l] 47) none) hg
      have c2 : w1.cell? ⟨w.heap.size, 2, none⟩ = some (.int .i64 g) := by simp only [World.cell?, hp]; rfl
      have c3 : w1.cell? ⟨w.heap.size, 3, none⟩ = some (.int .i64 z) := by simp only [World.cell?, hp]; rfl
      have c4 : w1.cell? ⟨w.heap.size, 4, none⟩ = some (.int .i64 sg) := by simp only [World.cell?, hp]; rfl
      have HG0 := Lib.hid hg0
      clear hg hg0 hp HP0
      go_wp2_with fail
      refine bodyPost_ret (by simp [*, results, Try.results57, go_sem]; try rfl) rfl ?_
      exact ⟨rfl, HG0.out⟩
    · by_cases h2 : s.segs ≤ j
      · have hr := sz_out (j := j) (u := us) (l := la) hfit (fun h => by omega)
        rw [hr.1, hr.2]
        clear hr hfit hs
        obtain ⟨k, n, g, z, sg, t, b, l⟩ := s
        simp only at h2
        unfold Sh.val at HF ⊢
        go_enter Try.func57, Try.ntmps57
        have HP0 := Lib.hid (heap_alloc_new w (.cells #[.int .i64 k, .int .i64 n, .int .i64 g, .int .i64 z, .int .i64 sg, .int .i64 t, .int .i64 b, .int .i64 l] 47))
        go_wp2_with (first | (refine wpList_load_row rfl 47 _ rfl w.heap.size rfl 47 #[.int .i64 k, .int .i64 n, .int .i64 g, .int .i64 z, .int .i64 sg, .int .i64 t, .int .i64 b, .int .i64 l] (0, 0) _ HP0.out Try.underlying47 rfl size_shape ?_))
        refine (HF.out _).mono ?_
        rintro e w1 ⟨rfl, hg⟩
        have hp := heap_grown HP0.out hg
        have hg0 := grownBy_trans (World.grownBy_alloc w (.cells #[.int .i64 k, .int .i64 n, .int .i64 g, .int .i64 z, .int .i64 sg, .int .i64 t, .int .i64 b, .int .i64 l] 47) none) hg
        have c2 : w1.cell? ⟨w.heap.size, 2, none⟩ = some (.int .i64 g) := by simp only [World.cell?, hp]; rfl
        have c3 : w1.cell? ⟨w.heap.size, 3, none⟩ = some (.int .i64 z) := by simp only [World.cell?, hp]; rfl
        have c4 : w1.cell? ⟨w.heap.size, 4, none⟩ = some (.int .i64 sg) := by simp only [World.cell?, hp]; rfl
        have HG0 := Lib.hid hg0
        clear hg hg0 hp HP0
        go_wp2_with fail
        refine bodyPost_ret (by simp [*, results, Try.results57, go_sem]; try rfl) rfl ?_
        exact ⟨rfl, HG0.out⟩
      · have hr := sz_in (j := j) (u := us) (l := la) hfit (by omega)
        have hw : IntKind.i64.wrap (s.segs - 1) = s.segs - 1 := IntWalk.i64_in _ (by unfold i64ok at hsw; omega)
        rw [hr.1, hr.2]
        clear hr hfit hs
        obtain ⟨k, n, g, z, sg, t, b, l⟩ := s
        simp only at h2 hw
        unfold Sh.val at HF ⊢
        by_cases h3 : j = sg - 1
        · rw [if_pos h3]
          subst h3
          go_enter Try.func57, Try.ntmps57
          have HP0 := Lib.hid (heap_alloc_new w (.cells #[.int .i64 k, .int .i64 n, .int .i64 g, .int .i64 z, .int .i64 sg, .int .i64 t, .int .i64 b, .int .i64 l] 47))
          go_wp2_with (first | (refine wpList_load_row rfl 47 _ rfl w.heap.size rfl 47 #[.int .i64 k, .int .i64 n, .int .i64 g, .int .i64 z, .int .i64 sg, .int .i64 t, .int .i64 b, .int .i64 l] (0, 0) _ HP0.out Try.underlying47 rfl size_shape ?_))
          refine (HF.out _).mono ?_
          rintro e w1 ⟨rfl, hg⟩
          have hp := heap_grown HP0.out hg
          have hg0 := grownBy_trans (World.grownBy_alloc w (.cells #[.int .i64 k, .int .i64 n, .int .i64 g, .int .i64 z, .int .i64 sg, .int .i64 t, .int .i64 b, .int .i64 l] 47) none) hg
          have c2 : w1.cell? ⟨w.heap.size, 2, none⟩ = some (.int .i64 g) := by simp only [World.cell?, hp]; rfl
          have c3 : w1.cell? ⟨w.heap.size, 3, none⟩ = some (.int .i64 z) := by simp only [World.cell?, hp]; rfl
          have c4 : w1.cell? ⟨w.heap.size, 4, none⟩ = some (.int .i64 sg) := by simp only [World.cell?, hp]; rfl
          have HG0 := Lib.hid hg0
          clear hg hg0 hp HP0
          go_wp2_with fail
          refine bodyPost_ret (by simp [*, results, Try.results57, go_sem]; try rfl) rfl ?_
          exact ⟨rfl, HG0.out⟩
        · rw [if_neg h3]
          go_enter Try.func57, Try.ntmps57
          have HP0 := Lib.hid (heap_alloc_new w (.cells #[.int .i64 k, .int .i64 n, .int .i64 g, .int .i64 z, .int .i64 sg, .int .i64 t, .int .i64 b, .int .i64 l] 47))
          go_wp2_with (first | (refine wpList_load_row rfl 47 _ rfl w.heap.size rfl 47 #[.int .i64 k, .int .i64 n, .int .i64 g, .int .i64 z, .int .i64 sg, .int .i64 t, .int .i64 b, .int .i64 l] (0, 0) _ HP0.out Try.underlying47 rfl size_shape ?_))
          refine (HF.out _).mono ?_
          rintro e w1 ⟨rfl, hg⟩
          have hp := heap_grown HP0.out hg
          have hg0 := grownBy_trans (World.grownBy_alloc w (.cells #[.int .i64 k, .int .i64 n, .int .i64 g, .int .i64 z, .int .i64 sg, .int .i64 t, .int .i64 b, .int .i64 l] 47) none) hg
          have c2 : w1.cell? ⟨w.heap.size, 2, none⟩ = some (.int .i64 g) := by simp only [World.cell?, hp]; rfl
          have c3 : w1.cell? ⟨w.heap.size, 3, none⟩ = some (.int .i64 z) := by simp only [World.cell?, hp]; rfl
          have c4 : w1.cell? ⟨w.heap.size, 4, none⟩ = some (.int .i64 sg) := by simp only [World.cell?, hp]; rfl
          have HG0 := Lib.hid hg0
          clear hg hg0 hp HP0
          go_wp2_with fail
          refine bodyPost_ret (by simp [*, results, Try.results57, go_sem]; try rfl) rfl ?_
          exact ⟨rfl, HG0.out⟩
  · simp only [hfit, decide_false] at hf
    have HF := Lib.hid hf
    clear hf
    have hr := sz_no (j := j) (u := us) (l := la) hfit
    rw [hr.1, hr.2]
    clear hr hfit hs
    obtain ⟨k, n, g, z, sg, t, b, l⟩ := s
    unfold Sh.val at HF ⊢
    go_enter Try.func57, Try.ntmps57
    have HP0 := Lib.hid (heap_alloc_new w (.cells #[.int .i64 k, .int .i64 n, .int .i64 g, .int .i64 z, .int .i64 sg, .int .i64 t, .int .i64 b, .int .i64 l] 47))
    go_wp2_with (first | (refine wpList_load_row rfl 47 _ rfl w.heap.size rfl 47 #[.int .i64 k, .int .i64 n, .int .i64 g, .int .i64 z, .int .i64 sg, .int .i64 t, .int .i64 b, .int .i64 l] (0, 0) _ HP0.out Try.underlying47 rfl size_shape ?_))
    refine (HF.out _).mono ?_
    rintro e w1 ⟨rfl, hg⟩
    have hp := heap_grown HP0.out hg
    have hg0 := grownBy_trans (World.grownBy_alloc w (.cells #[.int .i64 k, .int .i64 n, .int .i64 g, .int .i64 z, .int .i64 sg, .int .i64 t, .int .i64 b, .int .i64 l] 47) none) hg
    have c2 : w1.cell? ⟨w.heap.size, 2, none⟩ = some (.int .i64 g) := by simp only [World.cell?, hp]; rfl
    have c3 : w1.cell? ⟨w.heap.size, 3, none⟩ = some (.int .i64 z) := by simp only [World.cell?, hp]; rfl
    have c4 : w1.cell? ⟨w.heap.size, 4, none⟩ = some (.int .i64 sg) := by simp only [World.cell?, hp]; rfl
    have HG0 := Lib.hid hg0
    clear hg hg0 hp HP0
    go_wp2_with fail
    refine bodyPost_ret (by simp [*, results, Try.results57, go_sem]; try rfl) rfl ?_
    exact ⟨rfl, HG0.out⟩

set_option maxRecDepth 100000 in
set_option maxHeartbeats 4000000 in
theorem segsize_n (s : Sh) (hs : s.Wf) (j : Int) (w : World) : Calls Try.prog 40 #[s.val, .int .i64 j] w fun e w' => e = .returned (.tuple #[.int .i64 (szV s j s.seg s.tail), .int .i64 (szE s j : Nat)]) ∧ w.grownBy w' none := by
  have hf := size_n s hs j s.seg s.tail
  generalize szV s j s.seg s.tail = V at hf ⊢
  generalize szE s j = E at hf ⊢
  clear hs
  obtain ⟨k, n, g, z, sg, t, b, l⟩ := s
  unfold Sh.val at hf ⊢
  have HF := Lib.hid hf
  clear hf
  go_enter Try.func40, Try.ntmps40
  have HP0 := Lib.hid (heap_alloc_new w (.cells #[.int .i64 k, .int .i64 n, .int .i64 g, .int .i64 z, .int .i64 sg, .int .i64 t, .int .i64 b, .int .i64 l] 47))
  go_wp2_with (first | (refine wpList_load_row rfl 47 _ rfl w.heap.size rfl 47 #[.int .i64 k, .int .i64 n, .int .i64 g, .int .i64 z, .int .i64 sg, .int .i64 t, .int .i64 b, .int .i64 l] (0, 0) _ HP0.out Try.underlying47 rfl size_shape ?_))
  refine (HF.out _).mono ?_
  rintro e w1 ⟨rfl, hg⟩
  have HG0 := Lib.hid (grownBy_trans (World.grownBy_alloc w (.cells #[.int .i64 k, .int .i64 n, .int .i64 g, .int .i64 z, .int .i64 sg, .int .i64 t, .int .i64 b, .int .i64 l] 47) none) hg)
  clear hg HP0
  go_wp2_with fail
  refine bodyPost_ret (by simp [*, results, Try.results40, go_sem]; try rfl) rfl ?_
  exact ⟨rfl, HG0.out⟩

set_option maxRecDepth 100000 in
set_option maxHeartbeats 4000000 in
theorem blocksize_n (s : Sh) (hs : s.Wf) (j : Int) (w : World) : Calls Try.prog 41 #[s.val, .int .i64 j] w fun e w' => e = .returned (.tuple #[.int .i64 (szV s j s.block s.last), .int .i64 (szE s j : Nat)]) ∧ w.grownBy w' none := by
  have hf := size_n s hs j s.block s.last
  generalize szV s j s.block s.last = V at hf ⊢
  generalize szE s j = E at hf ⊢
  clear hs
  obtain ⟨k, n, g, z, sg, t, b, l⟩ := s
  unfold Sh.val at hf ⊢
  have HF := Lib.hid hf
  clear hf
  go_enter Try.func41, Try.ntmps41
  have HP0 := Lib.hid (heap_alloc_new w (.cells #[.int .i64 k, .int .i64 n, .int .i64 g, .int .i64 z, .int .i64 sg, .int .i64 t, .int .i64 b, .int .i64 l] 47))
  go_wp2_with (first | (refine wpList_load_row rfl 47 _ rfl w.heap.size rfl 47 #[.int .i64 k, .int .i64 n, .int .i64 g, .int .i64 z, .int .i64 sg, .int .i64 t, .int .i64 b, .int .i64 l] (0, 0) _ HP0.out Try.underlying47 rfl size_shape ?_))
  refine (HF.out _).mono ?_
  rintro e w1 ⟨rfl, hg⟩
  have HG0 := Lib.hid (grownBy_trans (World.grownBy_alloc w (.cells #[.int .i64 k, .int .i64 n, .int .i64 g, .int .i64 z, .int .i64 sg, .int .i64 t, .int .i64 b, .int .i64 l] 47) none) hg)
  clear hg HP0
  go_wp2_with fail
  refine bodyPost_ret (by simp [*, results, Try.results41, go_sem]; try rfl) rfl ?_
  exact ⟨rfl, HG0.out⟩

end Go.Proofs.Ytfboddnpkaiifaa
