/- The law CutShapes. -/
import Derived.Test.YtfboddnpkaiifaaCutAwake
import Derived.Test.YtfboddnpkaiifaaCutRefShapeT
import Derived.Test.YtfboddnpkaiifaaCutAgainL
import Derived.Test.YtfboddnpkaiifaaKept
namespace Go.Proofs.Ytfboddnpkaiifaa
open Go.RowKit

set_option maxRecDepth 100000 in
set_option maxHeartbeats 1000000 in
theorem literal_n (z : Int) (w : World) : Calls Try.prog 33 #[.int .i64 z] w fun e w' => e = .returned (.bool (decide (0 ≤ z ∧ z ≤ 32))) ∧ w = w' := by
  by_cases h1 : z < 0
  · rw [show decide (0 ≤ z ∧ z ≤ 32) = false by rw [decide_eq_false_iff_not]; omega]
    go_enter Try.func33, Try.ntmps33
    go_wp2_with fail
    go_ret
    exact ⟨rfl, rfl⟩
  by_cases h2 : z ≤ 32
  · rw [show decide (0 ≤ z ∧ z ≤ 32) = true by rw [decide_eq_true_iff]; omega]
    go_enter Try.func33, Try.ntmps33
    go_wp2_with fail
    go_ret
    exact ⟨rfl, rfl⟩
  · rw [show decide (0 ≤ z ∧ z ≤ 32) = false by rw [decide_eq_false_iff_not]; omega]
    go_enter Try.func33, Try.ntmps33
    go_wp2_with fail
    go_ret
    exact ⟨rfl, rfl⟩

set_option maxRecDepth 100000 in
set_option maxHeartbeats 4000000 in
theorem shapes_walk (pk pn pg ph : Int) (pa : Option Addr) (pl pc : Nat) (ls : List UInt8) (size : Int) (w : World) (hl : BLies w pa ls) (hln : ls.length = pl) (hpl : pl ≤ 4000000000) (hpc : pl ≤ pc) : Calls Try.prog 5 #[prV pk pn pg ph pa pl pc, .int .i64 size] w fun e w' => e = .returned (.bool true) ∧ w.grownBy w' none := by
  have h1 := fun a c w => shape_t pk pn pg ph size a pl c w
  have h2 := fun a c w => check_n pk pn pg ph a pl c w
  have h3 := fun a c w => refShape_t pk pn pg ph size a pl c w
  have h4 := fun a c w => refCheck_n pk pn pg ph a pl c w
  have hswf := sh_wf pk pn pg pl size
  have hqq := fun w => (eq_same hswf w).2
  generalize shS pk pn pg pl size = s at h1 h3 hqq hswf
  generalize shE pk pn pg pl size = E at h1 h3
  generalize chE pk pn pg pl = C at h2 h4
  obtain ⟨i, hi, hz, hsz⟩ := shape_info
  have HI := Lib.hid hi
  have HZ := Lib.hid hz
  have HS := Lib.hid hsz
  obtain ⟨j, hj, hjz, hjs, _⟩ := params_info
  have JI := Lib.hid hj
  have JZ := Lib.hid hjz
  have JS := Lib.hid hjs
  clear hi hz hsz hj hjz hjs hswf
  have hgu := eq_guard_sh
  obtain ⟨k, n, g, z, sg, t, b, l⟩ := s
  unfold Sh.val at h1 h3
  have hq : ∀ w, (binOp .neq 47 (.agg #[.int .i64 k, .int .i64 n, .int .i64 g, .int .i64 z, .int .i64 sg, .int .i64 t, .int .i64 b, .int .i64 l]) (.agg #[.int .i64 k, .int .i64 n, .int .i64 g, .int .i64 z, .int .i64 sg, .int .i64 t, .int .i64 b, .int .i64 l])).run Try.prog w = .ok (.bool false) w := hqq
  clear hqq
  unfold prV at h1 h2 h3 h4 ⊢
  have H1 := Lib.hid h1
  have H2 := Lib.hid h2
  have H3 := Lib.hid h3
  have H4 := Lib.hid h4
  have HL := Lib.hid hl
  have HLN := Lib.hid hln
  clear h1 h2 h3 h4 hl hln
  go_enter Try.func5, Try.ntmps5
  go_wp2_with (first | (refine wpList_boxed rfl rfl #[.int .i64 pk, .int .i64 pn, .int .i64 pg, .int .i64 ph, .slice pa pl pc] rfl ?_; intro wb hsb hgb hrb; have HGB := Lib.hid hgb; have HPB := Lib.hid hrb; have HSB := Lib.hid hsb; clear hsb hgb hrb) | (refine wpList_load_row (by rfl) 45 _ rfl (w.heap.size) rfl 45 #[.int .i64 pk, .int .i64 pn, .int .i64 pg, .int .i64 ph, .slice pa pl pc] (0, 0) _ HPB.out Try.underlying45 rfl (by kernel_rfl) ?_) | (refine wpList_fresh rfl rfl rfl rfl rfl JI.out JZ.out (by rw [JS.out]; rfl) #[.int .i64 pk, .int .i64 pn, .int .i64 pg, .int .i64 ph, .slice pa pl pc] rfl rfl rfl (by simp [Value.oneCell']) ?_; intro w1 hs1 hg1 hr1; have HG1 := Lib.hid (grownBy_trans HGB.out hg1); have hp1 := HPB.out.grown hg1; have c4 := hp1.cell 4; simp at c4; have HP1 := Lib.hid hp1; have HR1 := Lib.hid hr1; have HS1 := Lib.hid hs1; clear hp1 hs1; clear hg1 hr1))
  refine (lent_n _ _ _ ls _ (HL.out.grown HG1.out) HLN.out hpl).mono ?_
  rintro e w2 ⟨gf, fc, rfl, oF, hg2⟩
  have hcF := oF.cap.1
  have zF : w1.heap.size ≤ gf := by obtain ⟨g', e, h1, _⟩ := Own.block oF (by omega); injection e with e; injection e with e; subst e; exact h1
  have HG2 := Lib.hid (grownBy_trans HG1.out hg2)
  have hp2 := HP1.out.grown hg2
  have hr2 := HR1.out.grown hg2
  have c42 := hp2.cell 4
  have y42 := hr2.cell 4
  have f42 := hr2.frozen 4
  simp at c42 y42
  have hlt : w.heap.size < wb.heap.size := by rw [HSB.out]; omega
  have hlt1 : wb.heap.size < w1.heap.size := by rw [HS1.out]; omega
  have hle : w.heap.size ≤ wb.heap.size := by omega
  have hne : w.heap.size ≠ wb.heap.size := by omega
  have hgne : gf ≠ wb.heap.size := by omega
  have hSET := grownBy_setCell w2 wb.heap.size 4 (.slice (some ⟨gf, 0, none⟩) pl fc)
  have HG3 := Lib.hid (grownBy_old HG2.out hSET hle)
  have HP3 := Lib.hid (hp2.grownNe hSET hne)
  have HQ3 := Lib.hid (hr2.setc 4 (.slice (some ⟨gf, 0, none⟩) pl fc))
  have HO3 := Lib.hid (Own.grownNe oF hSET (fun g' _ hq hr => hgne (by injection hq with hq; injection hq with hq; injection hr with hr; omega)))
  have HOB := Lib.hid zF
  have HL3 := Lib.hid (HL.out.grown HG3.out)
  clear hSET hg2 hp2 hr2 oF hlt hlt1 hle hne hgne zF c4
  go_wp2_with (first | (refine wpList_load_row (by rfl) 45 _ rfl (wb.heap.size) rfl 45 #[.int .i64 pk, .int .i64 pn, .int .i64 pg, .int .i64 ph, .slice (some ⟨gf, 0, none⟩) pl fc] (0, 0) _ HQ3.out Try.underlying45 rfl (by kernel_rfl) ?_))
  refine (H1.out _ _ _).mono ?_
  rintro e w4 ⟨rfl, hg4⟩
  have HG4 := Lib.hid (grownBy_trans HG3.out hg4)
  have HP4 := Lib.hid (HP3.out.grown hg4)
  have HQ4 := Lib.hid (HQ3.out.grown hg4)
  have HO4 := Lib.hid (HO3.out.grownNone hg4)
  clear hg4 c42 y42
  go_wp2_with (first | (refine wpList_fresh rfl rfl rfl rfl rfl HI.out HZ.out (by rw [HS.out]; rfl) #[.int .i64 k, .int .i64 n, .int .i64 g, .int .i64 z, .int .i64 sg, .int .i64 t, .int .i64 b, .int .i64 l] rfl rfl rfl (by simp [Value.oneCell']) ?_; intro w5 hs5 hg5 hr5; have HG5 := Lib.hid (grownBy_trans HG4.out hg5); have HP5 := Lib.hid (HP4.out.grown hg5); have HQ5 := Lib.hid (HQ4.out.grown hg5); have HO5 := Lib.hid (HO4.out.grownNone hg5); have HS5 := Lib.hid hr5; clear hs5; clear hg5 hr5) | (refine wpList_load_row (by rfl) 45 _ rfl (wb.heap.size) rfl 45 #[.int .i64 pk, .int .i64 pn, .int .i64 pg, .int .i64 ph, .slice (some ⟨gf, 0, none⟩) pl fc] (0, 0) _ HQ5.out Try.underlying45 rfl (by kernel_rfl) ?_))
  refine (H2.out _ _ _).mono ?_
  rintro e w6 ⟨rfl, hg6⟩
  have HG6 := Lib.hid (grownBy_trans HG5.out hg6)
  have HP6 := Lib.hid (HP5.out.grown hg6)
  have HS6 := Lib.hid (HS5.out.grown hg6)
  have HO6 := Lib.hid (HO5.out.grownNone hg6)
  clear hg6
  go_wp2_with (first | (refine wpList_load_row (by rfl) 45 _ rfl (w.heap.size) rfl 45 #[.int .i64 pk, .int .i64 pn, .int .i64 pg, .int .i64 ph, .slice pa pl pc] (0, 0) _ HP6.out Try.underlying45 rfl (by kernel_rfl) ?_))
  refine (H3.out _ _ _).mono ?_
  rintro e w7 ⟨rfl, hg7⟩
  have HG7 := Lib.hid (grownBy_trans HG6.out hg7)
  have HP7 := Lib.hid (HP6.out.grown hg7)
  have HS7 := Lib.hid (HS6.out.grown hg7)
  have HO7 := Lib.hid (HO6.out.grownNone hg7)
  clear hg7
  go_wp2_with (first | (refine wpList_fresh rfl rfl rfl rfl rfl HI.out HZ.out (by rw [HS.out]; rfl) #[.int .i64 k, .int .i64 n, .int .i64 g, .int .i64 z, .int .i64 sg, .int .i64 t, .int .i64 b, .int .i64 l] rfl rfl rfl (by simp [Value.oneCell']) ?_; intro w8 hs8 hg8 hr8; have HG8 := Lib.hid (grownBy_trans HG7.out hg8); have HP8 := Lib.hid (HP7.out.grown hg8); have HO8 := Lib.hid (HO7.out.grownNone hg8); have HS8 := Lib.hid (HS7.out.grown hg8); have HW8 := Lib.hid hr8; clear hs8; clear hg8 hr8) | (refine wpList_load_rowW (by rfl) 47 _ rfl (w4.heap.size) rfl 47 #[.int .i64 k, .int .i64 n, .int .i64 g, .int .i64 z, .int .i64 sg, .int .i64 t, .int .i64 b, .int .i64 l] (0, 0) _ HS8.out Try.underlying47 rfl size_shape ?_) | (refine wpList_load_rowW (by rfl) 47 _ rfl (w7.heap.size) rfl 47 #[.int .i64 k, .int .i64 n, .int .i64 g, .int .i64 z, .int .i64 sg, .int .i64 t, .int .i64 b, .int .i64 l] (0, 0) _ HW8.out Try.underlying47 rfl size_shape ?_) | (refine wpList_load_rowW (by rfl) 45 _ rfl (w.heap.size) rfl 45 #[.int .i64 pk, .int .i64 pn, .int .i64 pg, .int .i64 ph, .slice pa pl pc] (0, 0) _ HP8.out Try.underlying45 rfl (by kernel_rfl) ?_))
  refine (H4.out _ _ _).mono ?_
  rintro e w9 ⟨rfl, hg9⟩
  have HG9 := Lib.hid (grownBy_trans HG8.out hg9)
  have hp9 := HP8.out.grown hg9
  have c49 := hp9.cell 4
  simp at c49
  have HO9 := Lib.hid (HO8.out.grownNone hg9)
  clear hg9 hp9
  go_wp2_with fail
  refine (kept_yes _ _ _ _ pl _ ls _ (BOwn.lies HO9.out) (HL.out.grown HG9.out) HLN.out rfl hpl).mono ?_
  rintro e wc ⟨rfl, hgc⟩
  have HG8 := Lib.hid (grownBy_trans HG9.out hgc)
  clear hgc c49
  by_cases q1 : size < 0
  · have LIT : decide (0 ≤ size ∧ size ≤ 32) = false := by rw [decide_eq_false_iff_not]; omega
    go_wp2_with fail
    refine (literal_n _ _).mono ?_
    rintro e w' ⟨rfl, rfl⟩
    rw [LIT]
    go_wp2_with fail
    refine (awake_n _).mono ?_
    rintro e w9 ⟨rfl, hg9⟩
    have HG9 := Lib.hid (grownBy_trans HG8.out hg9)
    clear hg9
    go_wp2_with fail
    refine bodyPost_ret (by simp [*, results, Try.results5, go_sem]; try rfl) rfl ?_
    first | exact ⟨rfl, HG9.out⟩ | exact ⟨by simp; omega, HG9.out⟩
  by_cases q2 : size ≤ 32
  · have LIT : decide (0 ≤ size ∧ size ≤ 32) = true := by rw [decide_eq_true_iff]; omega
    go_wp2_with fail
    refine (literal_n _ _).mono ?_
    rintro e w' ⟨rfl, rfl⟩
    rw [LIT]
    go_wp2_with fail
    refine (awake_n _).mono ?_
    rintro e w9 ⟨rfl, hg9⟩
    have HG9 := Lib.hid (grownBy_trans HG8.out hg9)
    clear hg9
    go_wp2_with fail
    refine bodyPost_ret (by simp [*, results, Try.results5, go_sem]; try rfl) rfl ?_
    first | exact ⟨rfl, HG9.out⟩ | exact ⟨by simp; omega, HG9.out⟩
  · have LIT : decide (0 ≤ size ∧ size ≤ 32) = false := by rw [decide_eq_false_iff_not]; omega
    go_wp2_with fail
    refine (literal_n _ _).mono ?_
    rintro e w' ⟨rfl, rfl⟩
    rw [LIT]
    go_wp2_with fail
    refine (awake_n _).mono ?_
    rintro e w9 ⟨rfl, hg9⟩
    have HG9 := Lib.hid (grownBy_trans HG8.out hg9)
    clear hg9
    go_wp2_with fail
    refine bodyPost_ret (by simp [*, results, Try.results5, go_sem]; try rfl) rfl ?_
    first | exact ⟨rfl, HG9.out⟩ | exact ⟨by simp; omega, HG9.out⟩

end Go.Proofs.Ytfboddnpkaiifaa
