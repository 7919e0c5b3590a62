/- The law CutStretch. -/
import Derived.Test.YtfboddnpkaiifaaCutAwake
import Derived.Test.YtfboddnpkaiifaaCutCoverW
import Derived.Test.YtfboddnpkaiifaaCutLaws
namespace Go.Proofs.Ytfboddnpkaiifaa
open Go.RowKit

set_option maxRecDepth 100000 in
set_option maxHeartbeats 1000000 in
theorem pick_n (x n : Int) (hn : 1 ≤ n) (hn2 : n ≤ 1000000000) (w : World) : Calls Try.prog 38 #[.int .i64 x, .int .i64 n] w fun e w' => (∃ r : Nat, e = .returned (.int .i64 (r : Int)) ∧ (r : Int) < n) ∧ w = w' := by
  obtain ⟨m, hm⟩ : ∃ m, m = x.tmod n := ⟨_, rfl⟩
  have h1 : m < n := by rw [hm]; exact Int.tmod_lt_of_pos x (by omega)
  have h2 : -n < m := by
    rw [hm]
    have := Int.lt_tmod_of_pos x (show 0 < n by omega)
    omega
  have w1 : IntKind.i64.wrap m = m := IntWalk.i64_in _ (by omega)
  have w2 : IntKind.i64.wrap (m + n) = m + n := IntWalk.i64_in _ (by omega)
  have hn0 : ¬ n = 0 := by omega
  have hm' : x.tmod n = m := hm.symm
  have w3 : IntKind.i64.wrap (x.tmod n) = m := by rw [hm', w1]
  clear hm
  by_cases h3 : m < 0
  · go_enter Try.func38, Try.ntmps38
    go_wp2_with fail
    go_ret
    exact ⟨⟨(m + n).toNat, by simp [w2]; omega, by omega⟩, rfl⟩
  · go_enter Try.func38, Try.ntmps38
    go_wp2_with fail
    go_ret
    exact ⟨⟨m.toNat, by simp; omega, by omega⟩, rfl⟩

set_option maxRecDepth 100000 in
set_option maxHeartbeats 4000000 in
theorem stretch_walk (pk pn pg ph : Int) (pa : Option Addr) (pl pc : Nat) (size at_ m : Int) (w : World) : Calls Try.prog 8 #[prV pk pn pg ph pa pl pc, .int .i64 size, .int .i64 at_, .int .i64 m] w fun e w' => e = .returned (.bool true) ∧ w.grownBy w' none := by
  have hsh := fun w => shape_t pk pn pg ph size pa pl pc w
  have hswf := sh_wf pk pn pg pl size
  obtain ⟨i, hi, hz, hs⟩ := shape_info
  have HI := Lib.hid hi
  have HZ := Lib.hid hz
  have HS := Lib.hid hs
  clear hi hz hs
  have HP0 := Lib.hid (heap_alloc_new w (.cells #[.int .i64 pk, .int .i64 pn, .int .i64 pg, .int .i64 ph, .slice pa pl pc] 45))
  have HG0 := Lib.hid (World.grownBy_alloc w (.cells #[.int .i64 pk, .int .i64 pn, .int .i64 pg, .int .i64 ph, .slice pa pl pc] 45) none)
  by_cases hE : shE pk pn pg pl size = 0
  · have hf := sh_fits hE
    have hfld := sh_fields hE
    have hsz := (shE_zero.1 hE).2.1
    rw [hE] at hsh
    obtain ⟨s, hs⟩ : ∃ s, s = shS pk pn pg pl size := ⟨_, rfl⟩
    rw [← hs] at hsh hf hfld hswf
    have hs4 : s.size = size := hfld.2.2.2
    clear hs hE hfld
    obtain ⟨Z, rfl⟩ : ∃ Z : Nat, size = (Z : Int) := ⟨size.toNat, by unfold sized at hsz; omega⟩
    have hZ : 32 < Z ∧ Z ≤ 16777216 := by unfold sized at hsz; omega
    obtain ⟨hZ1, hZ2⟩ := hZ
    clear hsz
    have H0 := Lib.hid hsh
    have HF := Lib.hid hf
    have HWF := Lib.hid hswf
    have HS4 := Lib.hid hs4
    clear hsh hf hswf hs4
    obtain ⟨k, n, g, z, sg, t, b, l⟩ := s
    unfold Sh.val at H0
    unfold prV at H0 ⊢
    go_enter Try.func8, Try.ntmps8
    go_wp2_with (first | (refine wpList_load_row rfl 45 _ rfl w.heap.size rfl 45 #[.int .i64 pk, .int .i64 pn, .int .i64 pg, .int .i64 ph, .slice pa pl pc] (0, 0) _ HP0.out Try.underlying45 rfl (by kernel_rfl) ?_))
    refine (H0.out _).mono ?_
    rintro e w1 ⟨rfl, hg1⟩
    have HG1 := Lib.hid (grownBy_trans HG0.out hg1)
    clear hg1
    go_wp2_with (first | (refine wpList_fresh rfl rfl rfl rfl rfl HI.out HZ.out (by rw [HS.out]; rfl) #[.int .i64 k, .int .i64 n, .int .i64 g, .int .i64 z, .int .i64 sg, .int .i64 t, .int .i64 b, .int .i64 l] rfl rfl rfl (by simp [Value.oneCell']) ?_; intro w2 hs2 hg2 hr2; clear hs2; have HG2 := Lib.hid (grownBy_trans HG1.out hg2); have HR2 := Lib.hid hr2; clear hg2 hr2))
    refine (pick_n _ _ (by omega) (by omega) _).mono ?_
    rintro e w' ⟨⟨r1, rfl, hr1⟩, rfl⟩
    have wr1 : IntKind.i64.wrap ((Z : Int) - (r1 : Int)) = (Z : Int) - (r1 : Int) := IntWalk.i64_in _ (by omega)
    go_wp2_with fail
    refine (pick_n _ _ (by omega) (by omega) _).mono ?_
    rintro e w' ⟨⟨r2, rfl, hr2⟩, rfl⟩
    have wr2 : IntKind.i64.wrap ((r2 : Int) + 1) = (r2 : Int) + 1 := IntWalk.i64_in _ (by omega)
    obtain ⟨a, c, tt, c1, c2, c3, d1, d2, e1, e2, e3, m1, m2, m3, m4, m5, m6, m7⟩ := stretch HF.out (p := r1) (q := r2 + 1) (by have := HS4.out; simp only at this ⊢; omega) (by omega) (by have := HS4.out; simp only at this ⊢; omega)
    have hcv := cover_n _ HWF.out (r1 : Int) ((r2 + 1 : Nat) : Int) ⟨by omega, by omega⟩ ⟨by omega, by omega⟩
    rw [c1, c2, c3] at hcv
    have hss := segsize_n _ HWF.out (c : Int)
    rw [e1, e2] at hss
    simp only at d2 m1 m2 m3 m4 m6 m7
    simp only [Sh.val] at hcv hss
    rw [show ((r2 + 1 : Nat) : Int) = (r2 : Int) + 1 by omega] at hcv m3 m4
    obtain ⟨G, rfl⟩ : ∃ G : Nat, g = (G : Int) := ⟨g.toNat, by omega⟩
    obtain ⟨A1, hA1⟩ : ∃ A1 : Nat, A1 = a * G := ⟨_, rfl⟩
    obtain ⟨A2, hA2⟩ : ∃ A2 : Nat, A2 = (a + 1) * G := ⟨_, rfl⟩
    obtain ⟨B1, hB1⟩ : ∃ B1 : Nat, B1 = c * G := ⟨_, rfl⟩
    have iA1 : (a : Int) * (G : Int) = (A1 : Int) := by rw [hA1]; simp
    have iA2 : ((a : Int) + 1) * (G : Int) = (A2 : Int) := by rw [hA2]; simp
    have iB1 : (c : Int) * (G : Int) = (B1 : Int) := by rw [hB1]; simp
    rw [iA1] at m1
    rw [iA2] at m2
    rw [iB1] at m3 m4
    have bA2 : A2 = A1 + G := by rw [hA1, hA2, Nat.succ_mul]
    have wA1 : IntKind.i64.wrap ((a : Int) * (G : Int)) = (A1 : Int) := by rw [iA1]; exact i64_nat _ (by omega)
    have wA2 : IntKind.i64.wrap (((a : Int) + 1) * (G : Int)) = (A2 : Int) := by rw [iA2]; exact i64_nat _ (by omega)
    have wB1 : IntKind.i64.wrap ((c : Int) * (G : Int)) = (B1 : Int) := by rw [iB1]; exact i64_nat _ (by omega)
    have wa1 : IntKind.i64.wrap ((a : Int) + 1) = (a : Int) + 1 := IntWalk.i64_in _ (by omega)
    have wpq : IntKind.i64.wrap ((r1 : Int) + ((r2 : Int) + 1)) = (r1 : Int) + ((r2 : Int) + 1) := IntWalk.i64_in _ (by omega)
    have wpq1 : IntKind.i64.wrap ((r1 : Int) + ((r2 : Int) + 1) - 1) = (r1 : Int) + ((r2 : Int) + 1) - 1 := IntWalk.i64_in _ (by omega)
    have wbt : IntKind.i64.wrap ((B1 : Int) + (tt : Int)) = (B1 : Int) + (tt : Int) := IntWalk.i64_in _ (by omega)
    have HCV := Lib.hid hcv
    have HSS := Lib.hid hss
    clear hcv hss c1 c2 c3 e1 e2 HF HWF HS4 hA1 hA2 hB1 iA1 iA2 iB1
    go_wp2_with (first | (refine wpList_load_rowW (by rfl) 47 _ rfl w1.heap.size rfl 47 #[.int .i64 k, .int .i64 n, .int .i64 (G : Int), .int .i64 z, .int .i64 sg, .int .i64 t, .int .i64 b, .int .i64 l] (0, 0) _ HR2.out Try.underlying47 rfl size_shape ?_))
    refine (HCV.out _).mono ?_
    rintro e w3 ⟨rfl, hg3⟩
    have HG3 := Lib.hid (grownBy_trans HG2.out hg3)
    have hr3 := HR2.out.grown hg3
    have q3 : w3.cell? ⟨w1.heap.size, 4, none⟩ = some (.int .i64 sg) := hr3.cell 4
    have HR3 := Lib.hid hr3
    clear hg3 hr3
    go_wp2_with fail
    refine (awake_n _).mono ?_
    rintro e w4 ⟨rfl, hg4⟩
    have HG4 := Lib.hid (grownBy_trans HG3.out hg4)
    have hr4 := HR3.out.grown hg4
    have HR4 := Lib.hid hr4
    clear hg4 hr4 q3
    go_wp2_with (first | (refine wpList_load_rowW (by rfl) 47 _ rfl w1.heap.size rfl 47 #[.int .i64 k, .int .i64 n, .int .i64 (G : Int), .int .i64 z, .int .i64 sg, .int .i64 t, .int .i64 b, .int .i64 l] (0, 0) _ HR4.out Try.underlying47 rfl size_shape ?_))
    refine (HSS.out _).mono ?_
    rintro e w5 ⟨rfl, hg5⟩
    have HG5 := Lib.hid (grownBy_trans HG4.out hg5)
    have hr5 := HR4.out.grown hg5
    have q5 : w5.cell? ⟨w1.heap.size, 2, none⟩ = some (.int .i64 (G : Int)) := hr5.cell 2
    clear hg5 hr5
    go_wp2_with fail
    refine bodyPost_ret (by simp [*, results, Try.results8, go_sem]; try rfl) rfl ?_
    exact ⟨rfl, HG5.out⟩
  · obtain ⟨s, hs⟩ : ∃ s, s = shS pk pn pg pl size := ⟨_, rfl⟩
    rw [← hs] at hsh
    generalize shE pk pn pg pl size = E at hsh hE
    have H0 := Lib.hid hsh
    have hE' : ¬ (E : Int) = 0 := by omega
    have hE2 : ((E : Int) != 0) = true := by simpa using hE'
    clear hsh hs hswf hE
    obtain ⟨k, n, g, z, sg, t, b, l⟩ := s
    unfold Sh.val at H0
    unfold prV at H0 ⊢
    go_enter Try.func8, Try.ntmps8
    go_wp2_with (first | (refine wpList_load_row rfl 45 _ rfl w.heap.size rfl 45 #[.int .i64 pk, .int .i64 pn, .int .i64 pg, .int .i64 ph, .slice pa pl pc] (0, 0) _ HP0.out Try.underlying45 rfl (by kernel_rfl) ?_))
    refine (H0.out _).mono ?_
    rintro e w1 ⟨rfl, hg1⟩
    have HG1 := Lib.hid (grownBy_trans HG0.out hg1)
    clear hg1
    go_wp2_with (first | (refine wpList_fresh rfl rfl rfl rfl rfl HI.out HZ.out (by rw [HS.out]; rfl) #[.int .i64 k, .int .i64 n, .int .i64 g, .int .i64 z, .int .i64 sg, .int .i64 t, .int .i64 b, .int .i64 l] rfl rfl rfl (by simp [Value.oneCell']) ?_; intro w2 hs2 hg2 hr2; clear hs2; have HG2 := Lib.hid (grownBy_trans HG1.out hg2); have HR2 := Lib.hid hr2; clear hg2 hr2))
    refine (awake_n _).mono ?_
    rintro e w3 ⟨rfl, hg3⟩
    have HG3 := Lib.hid (grownBy_trans HG2.out hg3)
    clear hg3
    go_wp2_with fail
    refine bodyPost_ret (by simp [*, results, Try.results8, go_sem]; try rfl) rfl ?_
    exact ⟨rfl, HG3.out⟩

end Go.Proofs.Ytfboddnpkaiifaa
