/- The law CutSame. -/
import Derived.Test.YtfboddnpkaiifaaCutAwake
import Derived.Test.YtfboddnpkaiifaaCutLaws
namespace Go.Proofs.Ytfboddnpkaiifaa
open Go.RowKit

theorem Row.setc {w : World} {g : Nat} {t : TypeId} {cs : Array Value} (h : Row w g t cs) (k : Nat) (v : Value) : Row (w.setCell ⟨g, k, none⟩ v) g t (cs.setIfInBounds k v) := by
  unfold Row at h ⊢
  simp only [World.setCell, Array.getElem?_modify, ↓reduceIte, h, Option.map_some]
  simp

theorem Row.frozen {w : World} {g : Nat} {t : TypeId} {cs : Array Value} (h : Row w g t cs) (k : Nat) : w.frozen? ⟨g, k, none⟩ = false := by
  unfold Row at h
  simp [World.frozen?, h]

set_option maxRecDepth 100000 in
set_option maxHeartbeats 8000000 in
theorem same_walk (pk pn pg ph : Int) (pa : Option Addr) (pl pc : Nat) (size more : Int) (w : World) : Calls Try.prog 7 #[prV pk pn pg ph pa pl pc, .int .i64 size, .int .i64 more] w fun e w' => e = .returned (.bool true) ∧ w.grownBy w' none := by
  have hsh := fun z w => shape_t pk pn pg ph z pa pl pc w
  have hswf := sh_wf pk pn pg pl size
  obtain ⟨i, hi, hz, hs⟩ := shape_info
  have HI := Lib.hid hi
  have HZ := Lib.hid hz
  have HS := Lib.hid hs
  clear hi hz hs
  have HP0 := Lib.hid (show Row _ _ _ _ from heap_alloc_new w (.cells #[.int .i64 pk, .int .i64 pn, .int .i64 pg, .int .i64 ph, .slice pa pl pc] 45))
  have HG0 := Lib.hid (World.grownBy_alloc w (.cells #[.int .i64 pk, .int .i64 pn, .int .i64 pg, .int .i64 ph, .slice pa pl pc] 45) none)
  have h0 := hsh size
  by_cases hE : shE pk pn pg pl size = 0
  · have hf := sh_fits hE
    have hfld := sh_fields hE
    have hsz := (shE_zero.1 hE).2.1
    have hown := sh_own hE
    have hmore := fun (m : Int) (hm : 0 ≤ m) => sh_more hE hm
    rw [hE] at h0
    rw [← hfld.2.2.1] at hown
    obtain ⟨s, hs⟩ : ∃ s, s = shS pk pn pg pl size := ⟨_, rfl⟩
    rw [← hs] at h0 hf hfld hswf hown hmore
    have hseg : s.seg = (segT pk pg : Nat) := hfld.2.2.1
    clear hs hE hfld
    obtain ⟨Z, rfl⟩ : ∃ Z : Nat, size = (Z : Int) := ⟨size.toNat, by unfold sized at hsz; omega⟩
    have hZ : 32 < Z ∧ Z ≤ 16777216 := by unfold sized at hsz; omega
    obtain ⟨hZ1, hZ2⟩ := hZ
    clear hsz
    have hag := fun w => again_n s.k s.n s.seg s.size hswf.seg.2 w
    obtain ⟨f1, f2⟩ := hf
    have hfi := fun w => fits_n s hswf w
    rw [show decide (fits s) = true by rw [decide_eq_true_iff]; exact ⟨f1, f2⟩] at hfi
    rw [f1, ← f2] at hag
    clear f1 f2
    have hqq := fun w => (eq_same hswf w).2
    have how : s.seg ≤ 65536 → ∀ w, Calls Try.prog 29 #[prV pk pn s.seg ph pa pl pc, .int .i64 (Z : Int)] w fun e w' => e = .returned (.tuple #[s.val, .int .i64 ((0 : Nat) : Int)]) ∧ w.grownBy w' none := by
      intro hle w
      have h1 := hown (by rw [hseg] at hle; omega)
      have h2 := shape_t pk pn s.seg ph Z pa pl pc w
      rw [h1.1, h1.2] at h2
      exact h2
    have H0 := Lib.hid h0
    have HA := Lib.hid hag
    have HFI := Lib.hid hfi
    have HOW := Lib.hid how
    have HMORE := Lib.hid (hmore more)
    have HV := Lib.hid hsh
    have hgu := eq_guard_sh
    clear h0 hag hfi how hmore hsh hown hseg hswf
    obtain ⟨k, n, g, z, sg, t, b, l⟩ := s
    unfold Sh.val at H0 HA HFI HOW
    have hq : ∀ w, (binOp .neq 47 (.agg #[.int .i64 k, .int .i64 n, .int .i64 g, .int .i64 z, .int .i64 sg, .int .i64 t, .int .i64 b, .int .i64 l]) (.agg #[.int .i64 k, .int .i64 n, .int .i64 g, .int .i64 z, .int .i64 sg, .int .i64 t, .int .i64 b, .int .i64 l])).run Try.prog w = .ok (.bool false) w := hqq
    clear hqq
    simp only at HA HOW HMORE
    unfold prV at H0 HV HOW ⊢
    go_enter Try.func7, Try.ntmps7
    go_wp2_with (first | (refine wpList_load_row rfl 45 _ rfl (w.heap.size) rfl 45 #[.int .i64 pk, .int .i64 pn, .int .i64 pg, .int .i64 ph, .slice pa pl pc] (0, 0) _ HP0.out Try.underlying45 rfl (by kernel_rfl) ?_))
    refine (H0.out _).mono ?_
    rintro e w1 ⟨rfl, hg1⟩
    have HG1 := Lib.hid (grownBy_trans HG0.out hg1)
    have HP1 := Lib.hid (HP0.out.grown hg1)
    clear hg1
    go_wp2_with (first | (refine wpList_fresh rfl rfl rfl rfl rfl HI.out HZ.out (by rw [HS.out]; rfl) #[.int .i64 k, .int .i64 n, .int .i64 g, .int .i64 z, .int .i64 sg, .int .i64 t, .int .i64 b, .int .i64 l] rfl rfl rfl (by simp [Value.oneCell']) ?_; intro w2 hs2 hg2 hr2; clear hs2; have HG2 := Lib.hid (grownBy_trans HG1.out hg2); have HP2 := Lib.hid (HP1.out.grown hg2); have p0 := hr2.cell 0; have p1 := hr2.cell 1; have p2 := hr2.cell 2; have p3 := hr2.cell 3; simp at p0 p1 p2 p3; have HR2 := Lib.hid hr2; clear hg2 hr2))
    refine (HA.out _).mono ?_
    rintro e w3 ⟨rfl, hg3⟩
    have HG3 := Lib.hid (grownBy_trans HG2.out hg3)
    have HP3 := Lib.hid (HP2.out.grown hg3)
    have HR3 := Lib.hid (HR2.out.grown hg3)
    clear hg3 p0 p1 p2 p3
    go_wp2_with (first | (refine wpList_fresh rfl rfl rfl rfl rfl HI.out HZ.out (by rw [HS.out]; rfl) #[.int .i64 k, .int .i64 n, .int .i64 g, .int .i64 z, .int .i64 sg, .int .i64 t, .int .i64 b, .int .i64 l] rfl rfl rfl (by simp [Value.oneCell']) ?_; intro w4 hs4 hg4 hr4; clear hs4; have HG4 := Lib.hid (grownBy_trans HG3.out hg4); have HP4 := Lib.hid (HP3.out.grown hg4); have HR4 := Lib.hid (HR3.out.grown hg4); have HT4 := Lib.hid hr4; clear hg4 hr4) | (refine wpList_load_rowW (by rfl) 47 _ rfl (w3.heap.size) rfl 47 #[.int .i64 k, .int .i64 n, .int .i64 g, .int .i64 z, .int .i64 sg, .int .i64 t, .int .i64 b, .int .i64 l] (0, 0) _ HT4.out Try.underlying47 rfl size_shape ?_) | (refine wpList_load_rowW (by rfl) 47 _ rfl (w1.heap.size) rfl 47 #[.int .i64 k, .int .i64 n, .int .i64 g, .int .i64 z, .int .i64 sg, .int .i64 t, .int .i64 b, .int .i64 l] (0, 0) _ HR4.out Try.underlying47 rfl size_shape ?_))
    refine (HFI.out _).mono ?_
    rintro e w5 ⟨rfl, hg5⟩
    have HG5 := Lib.hid (grownBy_trans HG4.out hg5)
    have HP5 := Lib.hid (HP4.out.grown hg5)
    have HR5 := Lib.hid (HR4.out.grown hg5)
    clear hg5
    go_wp2_with fail
    refine (awake_n _).mono ?_
    rintro e w6 ⟨rfl, hg6⟩
    have HG6 := Lib.hid (grownBy_trans HG5.out hg6)
    have HP6 := Lib.hid (HP5.out.grown hg6)
    have hr6 := HR5.out.grown hg6
    have r2 := hr6.cell 2
    simp at r2
    have HR6 := Lib.hid hr6
    clear hg6 hr6
    by_cases hg : g ≤ 65536
    · obtain ⟨j, hj, hjz, hjs, _⟩ := params_info
      have HJ := Lib.hid hj
      have HJZ := Lib.hid hjz
      have HJS := Lib.hid hjs
      clear hj hjz hjs
      go_wp2_with (first | (refine wpList_load_row rfl 45 _ rfl (w.heap.size) rfl 45 #[.int .i64 pk, .int .i64 pn, .int .i64 pg, .int .i64 ph, .slice pa pl pc] (0, 0) _ HP6.out Try.underlying45 rfl (by kernel_rfl) ?_) | (refine wpList_fresh rfl rfl rfl rfl rfl HJ.out HJZ.out (by rw [HJS.out]; rfl) #[.int .i64 pk, .int .i64 pn, .int .i64 pg, .int .i64 ph, .slice pa pl pc] rfl rfl rfl (by simp [Value.oneCell']) ?_; intro w7 hs7 hg7 hr7; clear hs7; have HG7 := Lib.hid (grownBy_trans HG6.out hg7); have HP7 := Lib.hid (HP6.out.grown hg7); have hrr7 := HR6.out.grown hg7; have r27 := hrr7.cell 2; have y27 := hr7.cell 2; have f7 := hr7.frozen 2; have HQ8 := Lib.hid (hr7.setc 2 (.int .i64 g)); have HG8 := Lib.hid (grownBy_old HG7.out (grownBy_setCell w7 w6.heap.size 2 (.int .i64 g)) HG6.out.size); have HP8 := Lib.hid (HP7.out.grownNe (grownBy_setCell w7 w6.heap.size 2 (.int .i64 g)) (Nat.ne_of_lt HP6.out.lt)); have HR8 := Lib.hid (hrr7.grownNe (grownBy_setCell w7 w6.heap.size 2 (.int .i64 g)) (Nat.ne_of_lt HR6.out.lt)); simp at r27 y27; clear hg7 hr7 hrr7) | (refine wpList_load_row rfl 45 _ rfl (w6.heap.size) rfl 45 #[.int .i64 pk, .int .i64 pn, .int .i64 g, .int .i64 ph, .slice pa pl pc] (0, 0) _ HQ8.out Try.underlying45 rfl (by kernel_rfl) ?_))
      refine (HOW.out hg _).mono ?_
      rintro e w9 ⟨rfl, hg9⟩
      have HG9 := Lib.hid (grownBy_trans HG8.out hg9)
      have HP9 := Lib.hid (HP8.out.grown hg9)
      have HR9 := Lib.hid (HR8.out.grown hg9)
      clear hg9 f7 r27 y27 HQ8 HG8 HP8 HR8 HG7 HP7
      by_cases hm1 : more < 0
      · go_wp2_with (first | (refine wpList_fresh rfl rfl rfl rfl rfl HI.out HZ.out (by rw [HS.out]; rfl) #[.int .i64 k, .int .i64 n, .int .i64 g, .int .i64 z, .int .i64 sg, .int .i64 t, .int .i64 b, .int .i64 l] rfl rfl rfl (by simp [Value.oneCell']) ?_; intro w10 hs10 hg10 hr10; clear hs10; have HG10 := Lib.hid (grownBy_trans HG9.out hg10); have HP10 := Lib.hid (HP9.out.grown hg10); have HR10 := Lib.hid (HR9.out.grown hg10); have HU10 := Lib.hid hr10; clear hg10 hr10) | (refine wpList_load_rowW (by rfl) 47 _ rfl (w9.heap.size) rfl 47 #[.int .i64 k, .int .i64 n, .int .i64 g, .int .i64 z, .int .i64 sg, .int .i64 t, .int .i64 b, .int .i64 l] (0, 0) _ HU10.out Try.underlying47 rfl size_shape ?_) | (refine wpList_load_rowW (by rfl) 47 _ rfl (w1.heap.size) rfl 47 #[.int .i64 k, .int .i64 n, .int .i64 g, .int .i64 z, .int .i64 sg, .int .i64 t, .int .i64 b, .int .i64 l] (0, 0) _ HR10.out Try.underlying47 rfl size_shape ?_))
        refine bodyPost_ret (by simp [*, results, Try.results7, go_sem]; try rfl) rfl ?_
        exact ⟨rfl, HG10.out⟩
      by_cases hm2 : 16777216 < more
      · go_wp2_with (first | (refine wpList_fresh rfl rfl rfl rfl rfl HI.out HZ.out (by rw [HS.out]; rfl) #[.int .i64 k, .int .i64 n, .int .i64 g, .int .i64 z, .int .i64 sg, .int .i64 t, .int .i64 b, .int .i64 l] rfl rfl rfl (by simp [Value.oneCell']) ?_; intro w10 hs10 hg10 hr10; clear hs10; have HG10 := Lib.hid (grownBy_trans HG9.out hg10); have HP10 := Lib.hid (HP9.out.grown hg10); have HR10 := Lib.hid (HR9.out.grown hg10); have HU10 := Lib.hid hr10; clear hg10 hr10) | (refine wpList_load_rowW (by rfl) 47 _ rfl (w9.heap.size) rfl 47 #[.int .i64 k, .int .i64 n, .int .i64 g, .int .i64 z, .int .i64 sg, .int .i64 t, .int .i64 b, .int .i64 l] (0, 0) _ HU10.out Try.underlying47 rfl size_shape ?_) | (refine wpList_load_rowW (by rfl) 47 _ rfl (w1.heap.size) rfl 47 #[.int .i64 k, .int .i64 n, .int .i64 g, .int .i64 z, .int .i64 sg, .int .i64 t, .int .i64 b, .int .i64 l] (0, 0) _ HR10.out Try.underlying47 rfl size_shape ?_))
        refine bodyPost_ret (by simp [*, results, Try.results7, go_sem]; try rfl) rfl ?_
        exact ⟨rfl, HG10.out⟩
      have wzm : IntKind.i64.wrap ((Z : Int) + more) = (Z : Int) + more := IntWalk.i64_in _ (by omega)
      have HM := Lib.hid (HMORE.out (by omega))
      go_wp2_with (first | (refine wpList_fresh rfl rfl rfl rfl rfl HI.out HZ.out (by rw [HS.out]; rfl) #[.int .i64 k, .int .i64 n, .int .i64 g, .int .i64 z, .int .i64 sg, .int .i64 t, .int .i64 b, .int .i64 l] rfl rfl rfl (by simp [Value.oneCell']) ?_; intro w10 hs10 hg10 hr10; clear hs10; have HG10 := Lib.hid (grownBy_trans HG9.out hg10); have HP10 := Lib.hid (HP9.out.grown hg10); have HR10 := Lib.hid (HR9.out.grown hg10); have HU10 := Lib.hid hr10; clear hg10 hr10) | (refine wpList_load_rowW (by rfl) 47 _ rfl (w9.heap.size) rfl 47 #[.int .i64 k, .int .i64 n, .int .i64 g, .int .i64 z, .int .i64 sg, .int .i64 t, .int .i64 b, .int .i64 l] (0, 0) _ HU10.out Try.underlying47 rfl size_shape ?_) | (refine wpList_load_rowW (by rfl) 47 _ rfl (w1.heap.size) rfl 47 #[.int .i64 k, .int .i64 n, .int .i64 g, .int .i64 z, .int .i64 sg, .int .i64 t, .int .i64 b, .int .i64 l] (0, 0) _ HR10.out Try.underlying47 rfl size_shape ?_) | (refine wpList_load_row rfl 45 _ rfl (w.heap.size) rfl 45 #[.int .i64 pk, .int .i64 pn, .int .i64 pg, .int .i64 ph, .slice pa pl pc] (0, 0) _ HP10.out Try.underlying45 rfl (by kernel_rfl) ?_))
      refine (HV.out _ _).mono ?_
      rintro e wv ⟨rfl, hgv⟩
      have HGv := Lib.hid (grownBy_trans HG10.out hgv)
      have HPv := Lib.hid (HP10.out.grown hgv)
      have HRv := Lib.hid (HR10.out.grown hgv)
      clear hgv
      obtain ⟨s2, hs2⟩ : ∃ s2, s2 = shS pk pn pg pl ((Z : Int) + more) := ⟨_, rfl⟩
      obtain ⟨E2, hE2⟩ : ∃ E2, E2 = shE pk pn pg pl ((Z : Int) + more) := ⟨_, rfl⟩
      have hm := HM.out
      rw [← hs2, ← hE2] at hm ⊢
      clear hs2 hE2 HM
      obtain ⟨k2, n2, g2, z2, sg2, t2, b2, l2⟩ := s2
      unfold Sh.val
      rcases hm with ⟨rfl, hm1, hm2, hm3⟩ | rfl | rfl
      · simp only at hm1 hm2 hm3
        replace hm2 := hm2.symm
        replace hm3 := hm3.symm
        subst hm2 hm3
        have hs5 : (sg ≤ sg2) := hm1
        clear hm1
        go_wp2_with (first | (refine wpList_fresh rfl rfl rfl rfl rfl HI.out HZ.out (by rw [HS.out]; rfl) #[.int .i64 k2, .int .i64 n2, .int .i64 g, .int .i64 z2, .int .i64 sg2, .int .i64 t2, .int .i64 b, .int .i64 l2] rfl rfl rfl (by simp [Value.oneCell']) ?_; intro wt hst hgt hrt; clear hst; have HGt := Lib.hid (grownBy_trans HGv.out hgt); have HPt := Lib.hid (HPv.out.grown hgt); have hrt0 := HRv.out.grown hgt; have f4 := hrt0.cell 4; have f2 := hrt0.cell 2; have f6 := hrt0.cell 6; have u4 := hrt.cell 4; have u2 := hrt.cell 2; have u6 := hrt.cell 6; simp at f4 f2 f6 u4 u2 u6; clear hrt0; have HTt := Lib.hid hrt; clear hgt hrt))
        refine bodyPost_ret (by simp [*, results, Try.results7, go_sem]; try rfl) rfl ?_
        exact ⟨rfl, HGt.out⟩
      · go_wp2_with (first | (refine wpList_fresh rfl rfl rfl rfl rfl HI.out HZ.out (by rw [HS.out]; rfl) #[.int .i64 k2, .int .i64 n2, .int .i64 g2, .int .i64 z2, .int .i64 sg2, .int .i64 t2, .int .i64 b2, .int .i64 l2] rfl rfl rfl (by simp [Value.oneCell']) ?_; intro wt hst hgt hrt; clear hst; have HGt := Lib.hid (grownBy_trans HGv.out hgt); have HPt := Lib.hid (HPv.out.grown hgt); skip; have HTt := Lib.hid hrt; clear hgt hrt))
        refine bodyPost_ret (by simp [*, results, Try.results7, go_sem]; try rfl) rfl ?_
        exact ⟨rfl, HGt.out⟩
      · go_wp2_with (first | (refine wpList_fresh rfl rfl rfl rfl rfl HI.out HZ.out (by rw [HS.out]; rfl) #[.int .i64 k2, .int .i64 n2, .int .i64 g2, .int .i64 z2, .int .i64 sg2, .int .i64 t2, .int .i64 b2, .int .i64 l2] rfl rfl rfl (by simp [Value.oneCell']) ?_; intro wt hst hgt hrt; clear hst; have HGt := Lib.hid (grownBy_trans HGv.out hgt); have HPt := Lib.hid (HPv.out.grown hgt); skip; have HTt := Lib.hid hrt; clear hgt hrt))
        refine bodyPost_ret (by simp [*, results, Try.results7, go_sem]; try rfl) rfl ?_
        exact ⟨rfl, HGt.out⟩

    · skip
      by_cases hm1 : more < 0
      · go_wp2_with fail
        refine bodyPost_ret (by simp [*, results, Try.results7, go_sem]; try rfl) rfl ?_
        exact ⟨rfl, HG6.out⟩
      by_cases hm2 : 16777216 < more
      · go_wp2_with fail
        refine bodyPost_ret (by simp [*, results, Try.results7, go_sem]; try rfl) rfl ?_
        exact ⟨rfl, HG6.out⟩
      have wzm : IntKind.i64.wrap ((Z : Int) + more) = (Z : Int) + more := IntWalk.i64_in _ (by omega)
      have HM := Lib.hid (HMORE.out (by omega))
      go_wp2_with (first | (refine wpList_load_row rfl 45 _ rfl (w.heap.size) rfl 45 #[.int .i64 pk, .int .i64 pn, .int .i64 pg, .int .i64 ph, .slice pa pl pc] (0, 0) _ HP6.out Try.underlying45 rfl (by kernel_rfl) ?_))
      refine (HV.out _ _).mono ?_
      rintro e wv ⟨rfl, hgv⟩
      have HGv := Lib.hid (grownBy_trans HG6.out hgv)
      have HPv := Lib.hid (HP6.out.grown hgv)
      have HRv := Lib.hid (HR6.out.grown hgv)
      clear hgv
      obtain ⟨s2, hs2⟩ : ∃ s2, s2 = shS pk pn pg pl ((Z : Int) + more) := ⟨_, rfl⟩
      obtain ⟨E2, hE2⟩ : ∃ E2, E2 = shE pk pn pg pl ((Z : Int) + more) := ⟨_, rfl⟩
      have hm := HM.out
      rw [← hs2, ← hE2] at hm ⊢
      clear hs2 hE2 HM
      obtain ⟨k2, n2, g2, z2, sg2, t2, b2, l2⟩ := s2
      unfold Sh.val
      rcases hm with ⟨rfl, hm1, hm2, hm3⟩ | rfl | rfl
      · simp only at hm1 hm2 hm3
        replace hm2 := hm2.symm
        replace hm3 := hm3.symm
        subst hm2 hm3
        have hs5 : (sg ≤ sg2) := hm1
        clear hm1
        go_wp2_with (first | (refine wpList_fresh rfl rfl rfl rfl rfl HI.out HZ.out (by rw [HS.out]; rfl) #[.int .i64 k2, .int .i64 n2, .int .i64 g, .int .i64 z2, .int .i64 sg2, .int .i64 t2, .int .i64 b, .int .i64 l2] rfl rfl rfl (by simp [Value.oneCell']) ?_; intro wt hst hgt hrt; clear hst; have HGt := Lib.hid (grownBy_trans HGv.out hgt); have HPt := Lib.hid (HPv.out.grown hgt); have hrt0 := HRv.out.grown hgt; have f4 := hrt0.cell 4; have f2 := hrt0.cell 2; have f6 := hrt0.cell 6; have u4 := hrt.cell 4; have u2 := hrt.cell 2; have u6 := hrt.cell 6; simp at f4 f2 f6 u4 u2 u6; clear hrt0; have HTt := Lib.hid hrt; clear hgt hrt))
        refine bodyPost_ret (by simp [*, results, Try.results7, go_sem]; try rfl) rfl ?_
        exact ⟨rfl, HGt.out⟩
      · go_wp2_with (first | (refine wpList_fresh rfl rfl rfl rfl rfl HI.out HZ.out (by rw [HS.out]; rfl) #[.int .i64 k2, .int .i64 n2, .int .i64 g2, .int .i64 z2, .int .i64 sg2, .int .i64 t2, .int .i64 b2, .int .i64 l2] rfl rfl rfl (by simp [Value.oneCell']) ?_; intro wt hst hgt hrt; clear hst; have HGt := Lib.hid (grownBy_trans HGv.out hgt); have HPt := Lib.hid (HPv.out.grown hgt); skip; have HTt := Lib.hid hrt; clear hgt hrt))
        refine bodyPost_ret (by simp [*, results, Try.results7, go_sem]; try rfl) rfl ?_
        exact ⟨rfl, HGt.out⟩
      · go_wp2_with (first | (refine wpList_fresh rfl rfl rfl rfl rfl HI.out HZ.out (by rw [HS.out]; rfl) #[.int .i64 k2, .int .i64 n2, .int .i64 g2, .int .i64 z2, .int .i64 sg2, .int .i64 t2, .int .i64 b2, .int .i64 l2] rfl rfl rfl (by simp [Value.oneCell']) ?_; intro wt hst hgt hrt; clear hst; have HGt := Lib.hid (grownBy_trans HGv.out hgt); have HPt := Lib.hid (HPv.out.grown hgt); skip; have HTt := Lib.hid hrt; clear hgt hrt))
        refine bodyPost_ret (by simp [*, results, Try.results7, go_sem]; try rfl) rfl ?_
        exact ⟨rfl, HGt.out⟩

  · obtain ⟨s, hs⟩ : ∃ s, s = shS pk pn pg pl size := ⟨_, rfl⟩
    rw [← hs] at h0
    generalize shE pk pn pg pl size = E at h0 hE
    have H0 := Lib.hid h0
    have hE' : ¬ (E : Int) = 0 := by omega
    have hE2 : ((E : Int) != 0) = true := by simpa using hE'
    clear hsh hs hswf hE h0
    obtain ⟨k, n, g, z, sg, t, b, l⟩ := s
    unfold Sh.val at H0
    unfold prV at H0 ⊢
    go_enter Try.func7, Try.ntmps7
    go_wp2_with (first | (refine wpList_load_row rfl 45 _ rfl (w.heap.size) rfl 45 #[.int .i64 pk, .int .i64 pn, .int .i64 pg, .int .i64 ph, .slice pa pl pc] (0, 0) _ HP0.out Try.underlying45 rfl (by kernel_rfl) ?_))
    refine (H0.out _).mono ?_
    rintro e w1 ⟨rfl, hg1⟩
    have HG1 := Lib.hid (grownBy_trans HG0.out hg1)
    have HP1 := Lib.hid (HP0.out.grown hg1)
    clear hg1
    go_wp2_with (first | (refine wpList_fresh rfl rfl rfl rfl rfl HI.out HZ.out (by rw [HS.out]; rfl) #[.int .i64 k, .int .i64 n, .int .i64 g, .int .i64 z, .int .i64 sg, .int .i64 t, .int .i64 b, .int .i64 l] rfl rfl rfl (by simp [Value.oneCell']) ?_; intro w2 hs2 hg2 hr2; clear hs2; have HG2 := Lib.hid (grownBy_trans HG1.out hg2); have HP2 := Lib.hid (HP1.out.grown hg2); skip; have HR2 := Lib.hid hr2; clear hg2 hr2))
    refine (awake_n _).mono ?_
    rintro e w3 ⟨rfl, hg3⟩
    have HG3 := Lib.hid (grownBy_trans HG2.out hg3)
    clear hg3
    go_wp2_with fail
    refine bodyPost_ret (by simp [*, results, Try.results7, go_sem]; try rfl) rfl ?_
    exact ⟨rfl, HG3.out⟩

end Go.Proofs.Ytfboddnpkaiifaa
