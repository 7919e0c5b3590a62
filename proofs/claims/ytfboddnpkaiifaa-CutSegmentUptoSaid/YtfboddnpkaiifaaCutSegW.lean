/- cut.Segment, and the document's. -/
import Derived.Test.YtfboddnpkaiifaaCutRefSize
import Derived.Test.YtfboddnpkaiifaaSlClone
import Derived.Test.YtfboddnpkaiifaaRow
import Derived.Test.YtfboddnpkaiifaaAppZeros
namespace Go.Proofs.Ytfboddnpkaiifaa
open Go.RowKit

theorem run_app_none (w : World) (a : Option Addr) (c : Nat) (ty : TypeId) : (Builtin.append_ #[22, 22] ty #[.slice none 0 0, .slice a 0 c]).run Try.prog w = .ok (.slice none 0 0) w := by
  obtain ⟨i, hi, hz, hs, hb⟩ := elB.info
  cases a <;> simp [Builtin.append_, run_underlying Try.underlying22, sizeOf, typeInfo, hi, hs, Builtin.lenOf, Builtin.firstCells, loadCells, loadCellsFrom]
/-- Segment: the error's number, the bytes -/
def sgE (s : Sh) (m : Nat) (j : Int) : Nat := if fits s then if (m : Int) = s.size then szE s j else 91 else 92
def sgR (s : Sh) (ls : List UInt8) (j : Int) : List UInt8 := if sgE s ls.length j = 0 then (ls.drop (j * s.seg).toNat).take (szV s j s.seg s.tail).toNat else []

theorem sgR_len (s : Sh) (ls : List UInt8) (j : Int) : (sgR s ls j).length ≤ ls.length := by
  unfold sgR
  split
  · simp; omega
  · simp
theorem sg_size {s : Sh} {m : Nat} (hf : fits s) (hm : (m : Int) = s.size) : m ≤ 16777216 := by
  obtain ⟨k, n, g, z, F⟩ := fits_fit hf
  have e2 : s.size = (z : Int) := by rw [F.eq]; rfl
  have := F.z2
  omega
theorem sg_in {s : Sh} {m : Nat} {j : Int} (hf : fits s) (hE : szE s j = 0) (hm : (m : Int) = s.size) : ∃ r v : Nat, 0 ≤ j ∧ szV s j s.seg s.tail = (v : Int) ∧ j * s.seg = (r : Int) ∧ r + v ≤ m := by
  obtain ⟨k, n, g, z, F⟩ := fits_fit hf
  have hg := F.g1
  have hz1 := F.z1
  have e1 : s.seg = (g : Int) := by rw [F.eq]; rfl
  have e2 : s.size = (z : Int) := by rw [F.eq]; rfl
  have e3 : s.segs = (segsN g z : Nat) := by rw [F.eq]; rfl
  have e4 : s.tail = (tailN g z : Nat) := by rw [F.eq]; rfl
  have hj : 0 ≤ j ∧ j < s.segs := by
    by_cases h : 0 ≤ j ∧ j < s.segs
    · exact h
    · unfold szE at hE
      rw [if_pos hf, if_neg h] at hE
      omega
  obtain ⟨J, rfl⟩ : ∃ J : Nat, j = (J : Int) := ⟨j.toNat, by omega⟩
  have hJ : J < segsN g z := by have := hj.2; rw [e3] at this; omega
  have ht := tail_eq (g := g) (z := z) hg (by omega)
  unfold szV
  rw [if_pos hE, e1, e3, e4]
  by_cases hl : J = segsN g z - 1
  · refine ⟨J * g, tailN g z, by omega, ?_, by simp, ?_⟩
    · rw [if_pos (by omega)]
    · rw [hl, ht]; omega
  · refine ⟨J * g, g, by omega, ?_, by simp, ?_⟩
    · rw [if_neg (by omega)]
    · have h1 : (J + 1) * g ≤ (segsN g z - 1) * g := Nat.mul_le_mul_right _ (by omega)
      rw [Nat.succ_mul] at h1
      omega

set_option maxRecDepth 100000 in
set_option maxHeartbeats 4000000 in
theorem segment_n (s : Sh) (hs : s.Wf) (a : Option Addr) (c m : Nat) (ls : List UInt8) (j : Int) (w : World) (ha : BLies w a ls) (hlen : ls.length = m) (hmc : m ≤ c) : Calls Try.prog 46 #[s.val, .slice a m c, .int .i64 j] w fun e w' => (∃ a' m' c', e = .returned (.tuple #[.slice a' m' c', .int .i64 (sgE s m j : Nat)]) ∧ BOwn w' w.heap.size a' m' c' (sgR s ls j)) ∧ w.grownBy w' none := by
  have hf := fun w => fits_n s hs w
  have hsz := fun w => segsize_n s hs j w
  by_cases hfit : fits s
  · rw [show decide (fits s) = true by rw [decide_eq_true_iff]; exact hfit] at hf
    have HF := Lib.hid hf
    clear hf
    by_cases hm : (m : Int) = s.size
    · by_cases hE : szE s j = 0
      · have e1 : sgE s m j = 0 := by unfold sgE; rw [if_pos hfit, if_pos hm, hE]
        obtain ⟨r, v, j0, e2, e3, hrv⟩ := sg_in hfit hE (m := m) hm
        have e4 : sgR s ls j = (ls.drop r).take v := by unfold sgR; rw [hlen, e1, if_pos rfl, e3, e2]; simp
        have hm2 : m ≤ 16777216 := sg_size hfit hm
        rw [e1, e4]
        rw [hE, e2] at hsz
        have wr : IntKind.i64.wrap (j * s.seg) = (r : Int) := by rw [e3]; exact i64_nat _ (by omega)
        have wrv : IntKind.i64.wrap ((r : Int) + (v : Int)) = (r : Int) + (v : Int) := IntWalk.i64_in _ (by omega)
        have HSZ := Lib.hid hsz
        have HA := Lib.hid ha
        have HLEN := Lib.hid hlen
        clear hsz e1 e2 e3 e4 ha hlen hs hfit hE
        obtain ⟨k, n, g, z, sg, t, b, l⟩ := s
        simp only at hm wr
        subst hm
        unfold Sh.val at HF HSZ ⊢
        go_enter Try.func46, Try.ntmps46
        have HP0 := Lib.hid (show Row _ w.heap.size 47 #[.int .i64 k, .int .i64 n, .int .i64 g, .int .i64 (m : Int), .int .i64 sg, .int .i64 t, .int .i64 b, .int .i64 l] from heap_alloc_new w (.cells #[.int .i64 k, .int .i64 n, .int .i64 g, .int .i64 (m : Int), .int .i64 sg, .int .i64 t, .int .i64 b, .int .i64 l] 47))
        have HG0 := Lib.hid (World.grownBy_alloc w (.cells #[.int .i64 k, .int .i64 n, .int .i64 g, .int .i64 (m : Int), .int .i64 sg, .int .i64 t, .int .i64 b, .int .i64 l] 47) none)
        go_wp2_with (first | (refine wpList_load_row rfl 47 _ rfl w.heap.size rfl 47 #[.int .i64 k, .int .i64 n, .int .i64 g, .int .i64 (m : Int), .int .i64 sg, .int .i64 t, .int .i64 b, .int .i64 l] (0, 0) _ HP0.out Try.underlying47 rfl size_shape ?_))
        refine (HF.out _).mono ?_
        rintro e w1 ⟨rfl, hg⟩
        have hr1 := HP0.out.grown hg
        have c3 := hr1.cell 3
        simp at c3
        have HP1 := Lib.hid hr1
        have HG1 := Lib.hid (grownBy_trans HG0.out hg)
        clear hg hr1
        go_wp2_with (first | (refine wpList_load_row rfl 47 _ rfl w.heap.size rfl 47 #[.int .i64 k, .int .i64 n, .int .i64 g, .int .i64 (m : Int), .int .i64 sg, .int .i64 t, .int .i64 b, .int .i64 l] (0, 0) _ HP1.out Try.underlying47 rfl size_shape ?_))
        refine (HSZ.out _).mono ?_
        rintro e w2 ⟨rfl, hg⟩
        have hr2 := HP1.out.grown hg
        have c2 := hr2.cell 2
        simp at c2
        have HP2 := Lib.hid hr2
        have HG2 := Lib.hid (grownBy_trans HG1.out hg)
        clear hg hr2
        have HPC := Lib.hid (piece_n a c m r v ls w2 (HA.out.grown HG2.out) HLEN.out (by omega) hrv hmc)
        go_wp2_with fail
        refine HPC.out.mono ?_
        rintro e w3 ⟨a3, c3', rfl, ho, hg⟩
        have HO := Lib.hid (ho.mono HG2.out.size)
        have HG3 := Lib.hid (grownBy_trans HG2.out hg)
        clear hg ho
        go_wp2_with fail
        refine bodyPost_ret (by simp [*, results, Try.results46, go_sem]; try rfl) rfl ?_
        exact ⟨⟨_, _, _, rfl, HO.out⟩, HG3.out⟩
      · have e1 : sgE s m j = szE s j := by unfold sgE; rw [if_pos hfit, if_pos hm]
        have e4 : sgR s ls j = [] := by unfold sgR; rw [hlen, e1, if_neg hE]
        have e5 : szV s j s.seg s.tail = 0 := by unfold szV; rw [if_neg hE]
        rw [e1, e4]
        rw [e5] at hsz
        generalize szE s j = E at hsz hE
        have hE' : ¬ (E : Int) = 0 := by omega
        have hE2 : ((E : Int) != 0) = true := by simpa using hE'
        have HSZ := Lib.hid hsz
        clear hsz e1 e4 e5 ha hlen hs hfit hE
        obtain ⟨k, n, g, z, sg, t, b, l⟩ := s
        simp only at hm
        subst hm
        unfold Sh.val at HF HSZ ⊢
        go_enter Try.func46, Try.ntmps46
        have HP0 := Lib.hid (show Row _ w.heap.size 47 #[.int .i64 k, .int .i64 n, .int .i64 g, .int .i64 (m : Int), .int .i64 sg, .int .i64 t, .int .i64 b, .int .i64 l] from heap_alloc_new w (.cells #[.int .i64 k, .int .i64 n, .int .i64 g, .int .i64 (m : Int), .int .i64 sg, .int .i64 t, .int .i64 b, .int .i64 l] 47))
        have HG0 := Lib.hid (World.grownBy_alloc w (.cells #[.int .i64 k, .int .i64 n, .int .i64 g, .int .i64 (m : Int), .int .i64 sg, .int .i64 t, .int .i64 b, .int .i64 l] 47) none)
        go_wp2_with (first | (refine wpList_load_row rfl 47 _ rfl w.heap.size rfl 47 #[.int .i64 k, .int .i64 n, .int .i64 g, .int .i64 (m : Int), .int .i64 sg, .int .i64 t, .int .i64 b, .int .i64 l] (0, 0) _ HP0.out Try.underlying47 rfl size_shape ?_))
        refine (HF.out _).mono ?_
        rintro e w1 ⟨rfl, hg⟩
        have hr1 := HP0.out.grown hg
        have c3 := hr1.cell 3
        simp at c3
        have HP1 := Lib.hid hr1
        have HG1 := Lib.hid (grownBy_trans HG0.out hg)
        clear hg hr1
        go_wp2_with (first | (refine wpList_load_row rfl 47 _ rfl w.heap.size rfl 47 #[.int .i64 k, .int .i64 n, .int .i64 g, .int .i64 (m : Int), .int .i64 sg, .int .i64 t, .int .i64 b, .int .i64 l] (0, 0) _ HP1.out Try.underlying47 rfl size_shape ?_))
        refine (HSZ.out _).mono ?_
        rintro e w2 ⟨rfl, hg⟩
        have hr2 := HP1.out.grown hg
        have c2 := hr2.cell 2
        simp at c2
        have HP2 := Lib.hid hr2
        have HG2 := Lib.hid (grownBy_trans HG1.out hg)
        clear hg hr2
        go_wp2_with fail
        refine bodyPost_ret (by simp [*, results, Try.results46, go_sem]; try rfl) rfl ?_
        exact ⟨⟨_, _, _, rfl, Own.nil _ _ _ _ _⟩, HG2.out⟩
    · have e1 : sgE s m j = 91 := by unfold sgE; rw [if_pos hfit, if_neg hm]
      have e4 : sgR s ls j = [] := by unfold sgR; rw [hlen, e1]; rfl
      rw [e1, e4]
      clear hsz e1 e4 ha hlen hs hfit
      obtain ⟨k, n, g, z, sg, t, b, l⟩ := s
      simp only at hm
      have hmb : ((m : Int) != z) = true := by rw [bne_iff_ne]; exact hm
      unfold Sh.val at HF ⊢
      go_enter Try.func46, Try.ntmps46
      have HP0 := Lib.hid (show Row _ w.heap.size 47 #[.int .i64 k, .int .i64 n, .int .i64 g, .int .i64 z, .int .i64 sg, .int .i64 t, .int .i64 b, .int .i64 l] from heap_alloc_new w (.cells #[.int .i64 k, .int .i64 n, .int .i64 g, .int .i64 z, .int .i64 sg, .int .i64 t, .int .i64 b, .int .i64 l] 47))
      have HG0 := Lib.hid (World.grownBy_alloc w (.cells #[.int .i64 k, .int .i64 n, .int .i64 g, .int .i64 z, .int .i64 sg, .int .i64 t, .int .i64 b, .int .i64 l] 47) none)
      go_wp2_with (first | (refine wpList_load_row rfl 47 _ rfl w.heap.size rfl 47 #[.int .i64 k, .int .i64 n, .int .i64 g, .int .i64 z, .int .i64 sg, .int .i64 t, .int .i64 b, .int .i64 l] (0, 0) _ HP0.out Try.underlying47 rfl size_shape ?_))
      refine (HF.out _).mono ?_
      rintro e w1 ⟨rfl, hg⟩
      have hr1 := HP0.out.grown hg
      have c3 := hr1.cell 3
      simp at c3
      have HP1 := Lib.hid hr1
      have HG1 := Lib.hid (grownBy_trans HG0.out hg)
      clear hg hr1
      go_wp2_with fail
      refine bodyPost_ret (by simp [*, results, Try.results46, go_sem]; try rfl) rfl ?_
      exact ⟨⟨_, _, _, rfl, Own.nil _ _ _ _ _⟩, HG1.out⟩
  · rw [show decide (fits s) = false by rw [decide_eq_false_iff_not]; exact hfit] at hf
    have HF := Lib.hid hf
    have e1 : sgE s m j = 92 := by unfold sgE; rw [if_neg hfit]
    have e4 : sgR s ls j = [] := by unfold sgR; rw [hlen, e1]; rfl
    rw [e1, e4]
    clear hf hsz e1 e4 ha hlen hs hfit
    obtain ⟨k, n, g, z, sg, t, b, l⟩ := s
    unfold Sh.val at HF ⊢
    go_enter Try.func46, Try.ntmps46
    have HP0 := Lib.hid (show Row _ w.heap.size 47 #[.int .i64 k, .int .i64 n, .int .i64 g, .int .i64 z, .int .i64 sg, .int .i64 t, .int .i64 b, .int .i64 l] from heap_alloc_new w (.cells #[.int .i64 k, .int .i64 n, .int .i64 g, .int .i64 z, .int .i64 sg, .int .i64 t, .int .i64 b, .int .i64 l] 47))
    have HG0 := Lib.hid (World.grownBy_alloc w (.cells #[.int .i64 k, .int .i64 n, .int .i64 g, .int .i64 z, .int .i64 sg, .int .i64 t, .int .i64 b, .int .i64 l] 47) none)
    go_wp2_with (first | (refine wpList_load_row rfl 47 _ rfl w.heap.size rfl 47 #[.int .i64 k, .int .i64 n, .int .i64 g, .int .i64 z, .int .i64 sg, .int .i64 t, .int .i64 b, .int .i64 l] (0, 0) _ HP0.out Try.underlying47 rfl size_shape ?_))
    refine (HF.out _).mono ?_
    rintro e w1 ⟨rfl, hg⟩
    have hr1 := HP0.out.grown hg
    have c3 := hr1.cell 3
    simp at c3
    have HP1 := Lib.hid hr1
    have HG1 := Lib.hid (grownBy_trans HG0.out hg)
    clear hg hr1
    go_wp2_with fail
    refine bodyPost_ret (by simp [*, results, Try.results46, go_sem]; try rfl) rfl ?_
    exact ⟨⟨_, _, _, rfl, Own.nil _ _ _ _ _⟩, HG1.out⟩

set_option maxRecDepth 100000 in
set_option maxHeartbeats 4000000 in
theorem refSegment_n (s : Sh) (hs : s.Wf) (a : Option Addr) (c m : Nat) (ls : List UInt8) (j : Int) (w : World) (ha : BLies w a ls) (hlen : ls.length = m) (hmc : m ≤ c) : Calls Try.prog 47 #[s.val, .slice a m c, .int .i64 j] w fun e w' => (∃ a' m' c', e = .returned (.tuple #[.slice a' m' c', .int .i64 (sgE s m j : Nat)]) ∧ BOwn w' w.heap.size a' m' c' (sgR s ls j)) ∧ w.grownBy w' none := by
  have hf := fun w => refFits_n s hs w
  have hsz := fun w => refSegSize_n s hs j w
  by_cases hfit : fits s
  · rw [show decide (fits s) = true by rw [decide_eq_true_iff]; exact hfit] at hf
    have HF := Lib.hid hf
    clear hf
    by_cases hm : (m : Int) = s.size
    · by_cases hE : szE s j = 0
      · have e1 : sgE s m j = 0 := by unfold sgE; rw [if_pos hfit, if_pos hm, hE]
        obtain ⟨r, v, j0, e2, e3, hrv⟩ := sg_in hfit hE (m := m) hm
        have e4 : sgR s ls j = (ls.drop r).take v := by unfold sgR; rw [hlen, e1, if_pos rfl, e3, e2]; simp
        have hm2 : m ≤ 16777216 := sg_size hfit hm
        rw [e1, e4]
        rw [hE, e2] at hsz
        have wr : IntKind.i64.wrap (j * s.seg) = (r : Int) := by rw [e3]; exact i64_nat _ (by omega)
        have wrv : IntKind.i64.wrap ((r : Int) + (v : Int)) = (r : Int) + (v : Int) := IntWalk.i64_in _ (by omega)
        have HSZ := Lib.hid hsz
        have HA := Lib.hid ha
        have HLEN := Lib.hid hlen
        clear hsz e1 e2 e3 e4 ha hlen hs hfit hE
        obtain ⟨k, n, g, z, sg, t, b, l⟩ := s
        simp only at hm wr
        subst hm
        unfold Sh.val at HF HSZ ⊢
        go_enter Try.func47, Try.ntmps47
        have HP0 := Lib.hid (show Row _ w.heap.size 47 #[.int .i64 k, .int .i64 n, .int .i64 g, .int .i64 (m : Int), .int .i64 sg, .int .i64 t, .int .i64 b, .int .i64 l] from heap_alloc_new w (.cells #[.int .i64 k, .int .i64 n, .int .i64 g, .int .i64 (m : Int), .int .i64 sg, .int .i64 t, .int .i64 b, .int .i64 l] 47))
        have HG0 := Lib.hid (World.grownBy_alloc w (.cells #[.int .i64 k, .int .i64 n, .int .i64 g, .int .i64 (m : Int), .int .i64 sg, .int .i64 t, .int .i64 b, .int .i64 l] 47) none)
        go_wp2_with (first | (refine wpList_load_row rfl 47 _ rfl w.heap.size rfl 47 #[.int .i64 k, .int .i64 n, .int .i64 g, .int .i64 (m : Int), .int .i64 sg, .int .i64 t, .int .i64 b, .int .i64 l] (0, 0) _ HP0.out Try.underlying47 rfl size_shape ?_))
        refine (HF.out _).mono ?_
        rintro e w1 ⟨rfl, hg⟩
        have hr1 := HP0.out.grown hg
        have c3 := hr1.cell 3
        simp at c3
        have HP1 := Lib.hid hr1
        have HG1 := Lib.hid (grownBy_trans HG0.out hg)
        clear hg hr1
        go_wp2_with (first | (refine wpList_load_row rfl 47 _ rfl w.heap.size rfl 47 #[.int .i64 k, .int .i64 n, .int .i64 g, .int .i64 (m : Int), .int .i64 sg, .int .i64 t, .int .i64 b, .int .i64 l] (0, 0) _ HP1.out Try.underlying47 rfl size_shape ?_))
        refine (HSZ.out _).mono ?_
        rintro e w2 ⟨rfl, hg⟩
        have hr2 := HP1.out.grown hg
        have c2 := hr2.cell 2
        simp at c2
        have HP2 := Lib.hid hr2
        have HG2 := Lib.hid (grownBy_trans HG1.out hg)
        clear hg hr2
        have HD := Lib.hid (HA.out.grown HG2.out)
        have hszw := HG2.out.size
        have hrv1 : r ≤ r + v := Nat.le_add_right _ _
        have hfc : r + v ≤ c := by omega
        by_cases hv0 : v = 0
        · subst hv0
          go_wp2_with (at_builtin; refine Lib.wpList_append_run _ rfl _ _ _ _ rfl _ _ rfl rfl _ _ (run_app_none _ _ _ _) ?_)
          all_goals (
            refine bodyPost_ret (by simp [*, results, Try.results47, go_sem]; try rfl) rfl ?_
            exact ⟨⟨_, _, _, rfl, Own.nil _ _ _ _ _⟩, HG2.out⟩)
        have hml : 0 < ls.length := by have := HLEN.out; omega
        obtain ⟨ab, aoff, hab⟩ := HD.out.addr hml
        subst hab
        have HDR := Lib.hid ((HD.out.drop r).take v)
        have hdl : ((ls.drop r).take v).length = v := by have := HLEN.out; simp; omega
        have HDL := Lib.hid hdl
        clear hdl hml
        go_wp2_with (at_builtin; refine wpList_app elB rfl (.tmp 28) (.tmp 40) rfl rfl (Own.nil _ w.heap.size _ _ _) ⟨ab, aoff + r, none⟩ v _ (((ls.drop r).take v).map bval) (by simp [*, go_sem]; try rfl) (by rw [List.length_map, HDL.out, Nat.mul_one]) HDR.out.news (bval_one _) (by unfold maxLen; omega) (by omega) hszw (by omega) ?_; intro g3 cap w3 hown3 hgr3)
        refine bodyPost_ret (by simp [*, results, Try.results47, go_sem]; try rfl) rfl ?_
        simp only [Nat.zero_add, List.nil_append] at hown3
        exact ⟨⟨_, _, _, by simp; try rfl, hown3⟩, hgr3.grew.grown (Own.nil _ w.heap.size 5 1 _) HG2.out (Nat.le_refl _)⟩
      · have e1 : sgE s m j = szE s j := by unfold sgE; rw [if_pos hfit, if_pos hm]
        have e4 : sgR s ls j = [] := by unfold sgR; rw [hlen, e1, if_neg hE]
        have e5 : szV s j s.seg s.tail = 0 := by unfold szV; rw [if_neg hE]
        rw [e1, e4]
        rw [e5] at hsz
        generalize szE s j = E at hsz hE
        have hE' : ¬ (E : Int) = 0 := by omega
        have hE2 : ((E : Int) != 0) = true := by simpa using hE'
        have HSZ := Lib.hid hsz
        clear hsz e1 e4 e5 ha hlen hs hfit hE
        obtain ⟨k, n, g, z, sg, t, b, l⟩ := s
        simp only at hm
        subst hm
        unfold Sh.val at HF HSZ ⊢
        go_enter Try.func47, Try.ntmps47
        have HP0 := Lib.hid (show Row _ w.heap.size 47 #[.int .i64 k, .int .i64 n, .int .i64 g, .int .i64 (m : Int), .int .i64 sg, .int .i64 t, .int .i64 b, .int .i64 l] from heap_alloc_new w (.cells #[.int .i64 k, .int .i64 n, .int .i64 g, .int .i64 (m : Int), .int .i64 sg, .int .i64 t, .int .i64 b, .int .i64 l] 47))
        have HG0 := Lib.hid (World.grownBy_alloc w (.cells #[.int .i64 k, .int .i64 n, .int .i64 g, .int .i64 (m : Int), .int .i64 sg, .int .i64 t, .int .i64 b, .int .i64 l] 47) none)
        go_wp2_with (first | (refine wpList_load_row rfl 47 _ rfl w.heap.size rfl 47 #[.int .i64 k, .int .i64 n, .int .i64 g, .int .i64 (m : Int), .int .i64 sg, .int .i64 t, .int .i64 b, .int .i64 l] (0, 0) _ HP0.out Try.underlying47 rfl size_shape ?_))
        refine (HF.out _).mono ?_
        rintro e w1 ⟨rfl, hg⟩
        have hr1 := HP0.out.grown hg
        have c3 := hr1.cell 3
        simp at c3
        have HP1 := Lib.hid hr1
        have HG1 := Lib.hid (grownBy_trans HG0.out hg)
        clear hg hr1
        go_wp2_with (first | (refine wpList_load_row rfl 47 _ rfl w.heap.size rfl 47 #[.int .i64 k, .int .i64 n, .int .i64 g, .int .i64 (m : Int), .int .i64 sg, .int .i64 t, .int .i64 b, .int .i64 l] (0, 0) _ HP1.out Try.underlying47 rfl size_shape ?_))
        refine (HSZ.out _).mono ?_
        rintro e w2 ⟨rfl, hg⟩
        have hr2 := HP1.out.grown hg
        have c2 := hr2.cell 2
        simp at c2
        have HP2 := Lib.hid hr2
        have HG2 := Lib.hid (grownBy_trans HG1.out hg)
        clear hg hr2
        go_wp2_with fail
        refine bodyPost_ret (by simp [*, results, Try.results47, go_sem]; try rfl) rfl ?_
        exact ⟨⟨_, _, _, rfl, Own.nil _ _ _ _ _⟩, HG2.out⟩
    · have e1 : sgE s m j = 91 := by unfold sgE; rw [if_pos hfit, if_neg hm]
      have e4 : sgR s ls j = [] := by unfold sgR; rw [hlen, e1]; rfl
      rw [e1, e4]
      clear hsz e1 e4 ha hlen hs hfit
      obtain ⟨k, n, g, z, sg, t, b, l⟩ := s
      simp only at hm
      have hmb : ((m : Int) != z) = true := by rw [bne_iff_ne]; exact hm
      unfold Sh.val at HF ⊢
      go_enter Try.func47, Try.ntmps47
      have HP0 := Lib.hid (show Row _ w.heap.size 47 #[.int .i64 k, .int .i64 n, .int .i64 g, .int .i64 z, .int .i64 sg, .int .i64 t, .int .i64 b, .int .i64 l] from heap_alloc_new w (.cells #[.int .i64 k, .int .i64 n, .int .i64 g, .int .i64 z, .int .i64 sg, .int .i64 t, .int .i64 b, .int .i64 l] 47))
      have HG0 := Lib.hid (World.grownBy_alloc w (.cells #[.int .i64 k, .int .i64 n, .int .i64 g, .int .i64 z, .int .i64 sg, .int .i64 t, .int .i64 b, .int .i64 l] 47) none)
      go_wp2_with (first | (refine wpList_load_row rfl 47 _ rfl w.heap.size rfl 47 #[.int .i64 k, .int .i64 n, .int .i64 g, .int .i64 z, .int .i64 sg, .int .i64 t, .int .i64 b, .int .i64 l] (0, 0) _ HP0.out Try.underlying47 rfl size_shape ?_))
      refine (HF.out _).mono ?_
      rintro e w1 ⟨rfl, hg⟩
      have hr1 := HP0.out.grown hg
      have c3 := hr1.cell 3
      simp at c3
      have HP1 := Lib.hid hr1
      have HG1 := Lib.hid (grownBy_trans HG0.out hg)
      clear hg hr1
      go_wp2_with fail
      refine bodyPost_ret (by simp [*, results, Try.results47, go_sem]; try rfl) rfl ?_
      exact ⟨⟨_, _, _, rfl, Own.nil _ _ _ _ _⟩, HG1.out⟩
  · rw [show decide (fits s) = false by rw [decide_eq_false_iff_not]; exact hfit] at hf
    have HF := Lib.hid hf
    have e1 : sgE s m j = 92 := by unfold sgE; rw [if_neg hfit]
    have e4 : sgR s ls j = [] := by unfold sgR; rw [hlen, e1]; rfl
    rw [e1, e4]
    clear hf hsz e1 e4 ha hlen hs hfit
    obtain ⟨k, n, g, z, sg, t, b, l⟩ := s
    unfold Sh.val at HF ⊢
    go_enter Try.func47, Try.ntmps47
    have HP0 := Lib.hid (show Row _ w.heap.size 47 #[.int .i64 k, .int .i64 n, .int .i64 g, .int .i64 z, .int .i64 sg, .int .i64 t, .int .i64 b, .int .i64 l] from heap_alloc_new w (.cells #[.int .i64 k, .int .i64 n, .int .i64 g, .int .i64 z, .int .i64 sg, .int .i64 t, .int .i64 b, .int .i64 l] 47))
    have HG0 := Lib.hid (World.grownBy_alloc w (.cells #[.int .i64 k, .int .i64 n, .int .i64 g, .int .i64 z, .int .i64 sg, .int .i64 t, .int .i64 b, .int .i64 l] 47) none)
    go_wp2_with (first | (refine wpList_load_row rfl 47 _ rfl w.heap.size rfl 47 #[.int .i64 k, .int .i64 n, .int .i64 g, .int .i64 z, .int .i64 sg, .int .i64 t, .int .i64 b, .int .i64 l] (0, 0) _ HP0.out Try.underlying47 rfl size_shape ?_))
    refine (HF.out _).mono ?_
    rintro e w1 ⟨rfl, hg⟩
    have hr1 := HP0.out.grown hg
    have c3 := hr1.cell 3
    simp at c3
    have HP1 := Lib.hid hr1
    have HG1 := Lib.hid (grownBy_trans HG0.out hg)
    clear hg hr1
    go_wp2_with fail
    refine bodyPost_ret (by simp [*, results, Try.results47, go_sem]; try rfl) rfl ?_
    exact ⟨⟨_, _, _, rfl, Own.nil _ _ _ _ _⟩, HG1.out⟩

end Go.Proofs.Ytfboddnpkaiifaa
