/- cut: Cover. -/
import Derived.Test.YtfboddnpkaiifaaCutSizeW
namespace Go.Proofs.Ytfboddnpkaiifaa
open Go.RowKit

theorem cv_no {s : Sh} {a m : Int} (h : ¬ fits s) : cvE s a m = 92 ∧ cvA s a m = 0 ∧ cvB s a m = 0 := by
  have h0 : cvE s a m = 92 := by unfold cvE; rw [if_neg h]
  exact ⟨h0, by unfold cvA; rw [h0]; rfl, by unfold cvB; rw [h0]; rfl⟩
theorem cv_out {s : Sh} {a m : Int} (h : fits s) (hj : ¬ (0 ≤ a ∧ 1 ≤ m ∧ a ≤ s.size ∧ m ≤ s.size - a)) : cvE s a m = 90 ∧ cvA s a m = 0 ∧ cvB s a m = 0 := by
  have h0 : cvE s a m = 90 := by unfold cvE; rw [if_pos h, if_neg hj]
  exact ⟨h0, by unfold cvA; rw [h0]; rfl, by unfold cvB; rw [h0]; rfl⟩
theorem cv_in {s : Sh} {a m : Int} (h : fits s) (hj : 0 ≤ a ∧ 1 ≤ m ∧ a ≤ s.size ∧ m ≤ s.size - a) : cvE s a m = 0 ∧ cvA s a m = (a.toNat / s.seg.toNat : Nat) ∧ cvB s a m = ((a.toNat + m.toNat - 1) / s.seg.toNat : Nat) := by
  have h0 : cvE s a m = 0 := by unfold cvE; rw [if_pos h, if_pos hj]
  exact ⟨h0, by unfold cvA; rw [if_pos h0], by unfold cvB; rw [if_pos h0]⟩

set_option maxRecDepth 100000 in
set_option maxHeartbeats 4000000 in
theorem cover_n (s : Sh) (hs : s.Wf) (a m : Int) (ha : i64ok a) (hm : i64ok m) (w : World) : Calls Try.prog 39 #[s.val, .int .i64 a, .int .i64 m] w fun e w' => e = .returned (.tuple #[.int .i64 (cvA s a m), .int .i64 (cvB s a m), .int .i64 (cvE s a m : Nat)]) ∧ w.grownBy w' none := by
  have hf := fits_n s hs
  by_cases hfit : fits s
  · simp only [hfit, decide_true] at hf
    have HF := Lib.hid hf
    clear hf
    by_cases h1 : a < 0
    · have hx := hs.size
      have hr := cv_out hfit (a := a) (m := m) (fun h => by omega)
      rw [hr.1, hr.2.1, hr.2.2]
      clear hr hfit hs
      obtain ⟨k, n, g, z, sg, t, b, l⟩ := s
      clear hx
      unfold Sh.val at HF ⊢
      go_enter Try.func39, Try.ntmps39
      have HP0 := Lib.hid (heap_alloc_new w (.cells #[.int .i64 k, .int .i64 n, .int .i64 g, .int .i64 z, .int .i64 sg, .int .i64 t, .int .i64 b, .int .i64 l] 47))
      go_wp2_with (first | (refine wpList_load_row rfl 47 _ rfl w.heap.size rfl 47 #[.int .i64 k, .int .i64 n, .int .i64 g, .int .i64 z, .int .i64 sg, .int .i64 t, .int .i64 b, .int .i64 l] (0, 0) _ HP0.out Try.underlying47 rfl size_shape ?_))
      refine (HF.out _).mono ?_
      rintro e w1 ⟨rfl, hg⟩
      have hp := heap_grown HP0.out hg
      have hg0 := grownBy_trans (World.grownBy_alloc w (.cells #[.int .i64 k, .int .i64 n, .int .i64 g, .int .i64 z, .int .i64 sg, .int .i64 t, .int .i64 b, .int .i64 l] 47) none) hg
      have c2 : w1.cell? ⟨w.heap.size, 2, none⟩ = some (.int .i64 g) := by simp only [World.cell?, hp]; rfl
      have c3 : w1.cell? ⟨w.heap.size, 3, none⟩ = some (.int .i64 z) := by simp only [World.cell?, hp]; rfl
      have HG0 := Lib.hid hg0
      clear hg hg0 hp HP0
      go_wp2_with fail
      refine bodyPost_ret (by simp [*, results, Try.results39, go_sem]; try rfl) rfl ?_
      exact ⟨rfl, HG0.out⟩
    by_cases h2 : m < 1
    · skip
      have hr := cv_out hfit (a := a) (m := m) (fun h => by omega)
      rw [hr.1, hr.2.1, hr.2.2]
      clear hr hfit hs
      obtain ⟨k, n, g, z, sg, t, b, l⟩ := s
      unfold Sh.val at HF ⊢
      go_enter Try.func39, Try.ntmps39
      have HP0 := Lib.hid (heap_alloc_new w (.cells #[.int .i64 k, .int .i64 n, .int .i64 g, .int .i64 z, .int .i64 sg, .int .i64 t, .int .i64 b, .int .i64 l] 47))
      go_wp2_with (first | (refine wpList_load_row rfl 47 _ rfl w.heap.size rfl 47 #[.int .i64 k, .int .i64 n, .int .i64 g, .int .i64 z, .int .i64 sg, .int .i64 t, .int .i64 b, .int .i64 l] (0, 0) _ HP0.out Try.underlying47 rfl size_shape ?_))
      refine (HF.out _).mono ?_
      rintro e w1 ⟨rfl, hg⟩
      have hp := heap_grown HP0.out hg
      have hg0 := grownBy_trans (World.grownBy_alloc w (.cells #[.int .i64 k, .int .i64 n, .int .i64 g, .int .i64 z, .int .i64 sg, .int .i64 t, .int .i64 b, .int .i64 l] 47) none) hg
      have c2 : w1.cell? ⟨w.heap.size, 2, none⟩ = some (.int .i64 g) := by simp only [World.cell?, hp]; rfl
      have c3 : w1.cell? ⟨w.heap.size, 3, none⟩ = some (.int .i64 z) := by simp only [World.cell?, hp]; rfl
      have HG0 := Lib.hid hg0
      clear hg hg0 hp HP0
      go_wp2_with fail
      refine bodyPost_ret (by simp [*, results, Try.results39, go_sem]; try rfl) rfl ?_
      exact ⟨rfl, HG0.out⟩
    by_cases h3 : s.size < a
    · skip
      have hr := cv_out hfit (a := a) (m := m) (fun h => by omega)
      rw [hr.1, hr.2.1, hr.2.2]
      clear hr hfit hs
      obtain ⟨k, n, g, z, sg, t, b, l⟩ := s
      simp only at h3
      unfold Sh.val at HF ⊢
      go_enter Try.func39, Try.ntmps39
      have HP0 := Lib.hid (heap_alloc_new w (.cells #[.int .i64 k, .int .i64 n, .int .i64 g, .int .i64 z, .int .i64 sg, .int .i64 t, .int .i64 b, .int .i64 l] 47))
      go_wp2_with (first | (refine wpList_load_row rfl 47 _ rfl w.heap.size rfl 47 #[.int .i64 k, .int .i64 n, .int .i64 g, .int .i64 z, .int .i64 sg, .int .i64 t, .int .i64 b, .int .i64 l] (0, 0) _ HP0.out Try.underlying47 rfl size_shape ?_))
      refine (HF.out _).mono ?_
      rintro e w1 ⟨rfl, hg⟩
      have hp := heap_grown HP0.out hg
      have hg0 := grownBy_trans (World.grownBy_alloc w (.cells #[.int .i64 k, .int .i64 n, .int .i64 g, .int .i64 z, .int .i64 sg, .int .i64 t, .int .i64 b, .int .i64 l] 47) none) hg
      have c2 : w1.cell? ⟨w.heap.size, 2, none⟩ = some (.int .i64 g) := by simp only [World.cell?, hp]; rfl
      have c3 : w1.cell? ⟨w.heap.size, 3, none⟩ = some (.int .i64 z) := by simp only [World.cell?, hp]; rfl
      have HG0 := Lib.hid hg0
      clear hg hg0 hp HP0
      go_wp2_with fail
      refine bodyPost_ret (by simp [*, results, Try.results39, go_sem]; try rfl) rfl ?_
      exact ⟨rfl, HG0.out⟩
    have hx := hs.size
    have hw : IntKind.i64.wrap (s.size - a) = s.size - a := IntWalk.i64_in _ (by unfold i64ok at hx; omega)
    by_cases h4 : s.size - a < m
    · clear hx
      have hr := cv_out hfit (a := a) (m := m) (fun h => by omega)
      rw [hr.1, hr.2.1, hr.2.2]
      clear hr hfit hs
      obtain ⟨k, n, g, z, sg, t, b, l⟩ := s
      simp only at h3 h4 hw
      unfold Sh.val at HF ⊢
      go_enter Try.func39, Try.ntmps39
      have HP0 := Lib.hid (heap_alloc_new w (.cells #[.int .i64 k, .int .i64 n, .int .i64 g, .int .i64 z, .int .i64 sg, .int .i64 t, .int .i64 b, .int .i64 l] 47))
      go_wp2_with (first | (refine wpList_load_row rfl 47 _ rfl w.heap.size rfl 47 #[.int .i64 k, .int .i64 n, .int .i64 g, .int .i64 z, .int .i64 sg, .int .i64 t, .int .i64 b, .int .i64 l] (0, 0) _ HP0.out Try.underlying47 rfl size_shape ?_))
      refine (HF.out _).mono ?_
      rintro e w1 ⟨rfl, hg⟩
      have hp := heap_grown HP0.out hg
      have hg0 := grownBy_trans (World.grownBy_alloc w (.cells #[.int .i64 k, .int .i64 n, .int .i64 g, .int .i64 z, .int .i64 sg, .int .i64 t, .int .i64 b, .int .i64 l] 47) none) hg
      have c2 : w1.cell? ⟨w.heap.size, 2, none⟩ = some (.int .i64 g) := by simp only [World.cell?, hp]; rfl
      have c3 : w1.cell? ⟨w.heap.size, 3, none⟩ = some (.int .i64 z) := by simp only [World.cell?, hp]; rfl
      have HG0 := Lib.hid hg0
      clear hg hg0 hp HP0
      go_wp2_with fail
      refine bodyPost_ret (by simp [*, results, Try.results39, go_sem]; try rfl) rfl ?_
      exact ⟨rfl, HG0.out⟩
    clear hx
    have hr := cv_in hfit (a := a) (m := m) (by omega)
    obtain ⟨K, N, G, Z, F⟩ := fits_fit hfit
    have e1 : s.seg = (G : Int) := by rw [F.eq]; rfl
    have e2 : s.size = (Z : Int) := by rw [F.eq]; rfl
    have hG1 := F.g1
    have hG2 := F.g2
    have hZ2 := F.z2
    rw [hr.1, hr.2.1, hr.2.2, e1]
    rw [e2] at h3 h4 hw
    clear hr hfit hs F
    obtain ⟨k, n, g, z, sg, t, b, l⟩ := s
    simp only at e1 e2
    subst e1 e2
    obtain ⟨A, rfl⟩ : ∃ A : Nat, a = (A : Int) := ⟨a.toNat, by omega⟩
    obtain ⟨M, rfl⟩ : ∃ A : Nat, m = (A : Int) := ⟨m.toNat, by omega⟩
    simp only [Int.toNat_natCast]
    obtain ⟨q1, hq1⟩ : ∃ q, q = A / G := ⟨_, rfl⟩
    obtain ⟨q2, hq2⟩ : ∃ q, q = (A + M - 1) / G := ⟨_, rfl⟩
    have b1 : q1 ≤ A := by rw [hq1]; exact Nat.div_le_self _ _
    have b2 : q2 ≤ A + M - 1 := by rw [hq2]; exact Nat.div_le_self _ _
    have w1 : IntKind.i64.wrap ((A : Int) + M) = (A : Int) + M := IntWalk.i64_in _ (by omega)
    have w2 : IntKind.i64.wrap ((A : Int) + M - 1) = (A : Int) + M - 1 := IntWalk.i64_in _ (by omega)
    have d1 : (A : Int).tdiv (G : Int) = (q1 : Int) := by rw [hq1]; rfl
    have d1' : (A : Int) / (G : Int) = (q1 : Int) := by rw [hq1]; rfl
    have d2 : ((A : Int) + M - 1).tdiv (G : Int) = (q2 : Int) := by rw [hq2, show (A : Int) + M - 1 = ((A + M - 1 : Nat) : Int) by omega]; rfl
    have d2' : ((A : Int) + M - 1) / (G : Int) = (q2 : Int) := by rw [hq2, show (A : Int) + M - 1 = ((A + M - 1 : Nat) : Int) by omega]; rfl
    have w3 : IntKind.i64.wrap (q1 : Int) = (q1 : Int) := i64_nat _ (by omega)
    have w4 : IntKind.i64.wrap (q2 : Int) = (q2 : Int) := i64_nat _ (by omega)
    have hG0 : ¬ (G : Int) = 0 := by omega
    have hG3 : ((G : Int) == 0) = false := by simpa using hG0
    have w5 : IntKind.i64.wrap ((A : Int).tdiv (G : Int)) = (q1 : Int) := by rw [d1]; exact w3
    have w6 : IntKind.i64.wrap (((A : Int) + M - 1).tdiv (G : Int)) = (q2 : Int) := by rw [d2]; exact w4
    rw [← hq1, ← hq2]
    replace hq1 := Lib.hid hq1
    replace hq2 := Lib.hid hq2
    clear ha hm
    unfold Sh.val at HF ⊢
    go_enter Try.func39, Try.ntmps39
    have HP0 := Lib.hid (heap_alloc_new w (.cells #[.int .i64 k, .int .i64 n, .int .i64 (G : Int), .int .i64 (Z : Int), .int .i64 sg, .int .i64 t, .int .i64 b, .int .i64 l] 47))
    go_wp2_with (first | (refine wpList_load_row rfl 47 _ rfl w.heap.size rfl 47 #[.int .i64 k, .int .i64 n, .int .i64 (G : Int), .int .i64 (Z : Int), .int .i64 sg, .int .i64 t, .int .i64 b, .int .i64 l] (0, 0) _ HP0.out Try.underlying47 rfl size_shape ?_))
    refine (HF.out _).mono ?_
    rintro e w1 ⟨rfl, hg⟩
    have hp := heap_grown HP0.out hg
    have hg0 := grownBy_trans (World.grownBy_alloc w (.cells #[.int .i64 k, .int .i64 n, .int .i64 (G : Int), .int .i64 (Z : Int), .int .i64 sg, .int .i64 t, .int .i64 b, .int .i64 l] 47) none) hg
    have c2 : w1.cell? ⟨w.heap.size, 2, none⟩ = some (.int .i64 (G : Int)) := by simp only [World.cell?, hp]; rfl
    have c3 : w1.cell? ⟨w.heap.size, 3, none⟩ = some (.int .i64 (Z : Int)) := by simp only [World.cell?, hp]; rfl
    have HG0 := Lib.hid hg0
    clear hg hg0 hp HP0
    go_wp2_with fail
    go_quiet (fail)
    go_wp2_with fail
    refine bodyPost_ret (by simp [*, results, Try.results39, go_sem]; try rfl) rfl ?_
    exact ⟨rfl, grownBy_trans HG0.out (grownBy_drewN _ _ none)⟩
  · simp only [hfit, decide_false] at hf
    have HF := Lib.hid hf
    clear hf
    have hr := cv_no (a := a) (m := m) hfit
    rw [hr.1, hr.2.1, hr.2.2]
    clear hr hfit hs
    obtain ⟨k, n, g, z, sg, t, b, l⟩ := s
    unfold Sh.val at HF ⊢
    go_enter Try.func39, Try.ntmps39
    have HP0 := Lib.hid (heap_alloc_new w (.cells #[.int .i64 k, .int .i64 n, .int .i64 g, .int .i64 z, .int .i64 sg, .int .i64 t, .int .i64 b, .int .i64 l] 47))
    go_wp2_with (first | (refine wpList_load_row rfl 47 _ rfl w.heap.size rfl 47 #[.int .i64 k, .int .i64 n, .int .i64 g, .int .i64 z, .int .i64 sg, .int .i64 t, .int .i64 b, .int .i64 l] (0, 0) _ HP0.out Try.underlying47 rfl size_shape ?_))
    refine (HF.out _).mono ?_
    rintro e w1 ⟨rfl, hg⟩
    have hp := heap_grown HP0.out hg
    have hg0 := grownBy_trans (World.grownBy_alloc w (.cells #[.int .i64 k, .int .i64 n, .int .i64 g, .int .i64 z, .int .i64 sg, .int .i64 t, .int .i64 b, .int .i64 l] 47) none) hg
    have c2 : w1.cell? ⟨w.heap.size, 2, none⟩ = some (.int .i64 g) := by simp only [World.cell?, hp]; rfl
    have c3 : w1.cell? ⟨w.heap.size, 3, none⟩ = some (.int .i64 z) := by simp only [World.cell?, hp]; rfl
    have HG0 := Lib.hid hg0
    clear hg hg0 hp HP0
    go_wp2_with fail
    refine bodyPost_ret (by simp [*, results, Try.results39, go_sem]; try rfl) rfl ?_
    exact ⟨rfl, HG0.out⟩

end Go.Proofs.Ytfboddnpkaiifaa
