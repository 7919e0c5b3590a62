/- Helpers and contracts of the proofs over this seat: CutSegW, CutJoinN, AppB, ResCell, CutRd. Each states what a function of the program answers, or is plain Lean; its conditions stand in each statement. -/
import Derived.Test.YtfboddnpkaiifaaPtAA
import Derived.Test.YtfboddnpkaiifaaPtAB
import Derived.Test.YtfboddnpkaiifaaPtAC
import Derived.Test.YtfboddnpkaiifaaPtAD
import Derived.Test.YtfboddnpkaiifaaPtAF
set_option linter.unusedVariables false
/- cut.Segment, and the document's. -/
namespace Go.Proofs.Ytfboddnpkaiifaa
open Go.RowKit

theorem run_app_none (w : World) (a : Option Addr) (c : Nat) (ty : TypeId) : (Builtin.append_ #[22, 22] ty #[.slice none 0 0, .slice a 0 c]).run Try.prog w = .ok (.slice none 0 0) w := by
  obtain ⟨i, hi, hz, hs, hb⟩ := elB.info
  cases a <;> simp [Builtin.append_, run_underlying Try.underlying22, sizeOf, typeInfo, hi, hs, Builtin.lenOf, Builtin.firstCells, loadCells, loadCellsFrom]
/-- Segment: the error's number, the bytes -/
def sgE (s : Sh) (m : Nat) (j : Int) : Nat := if fits s then if (m : Int) = s.size then szE s j else 91 else 92
def sgR (s : Sh) (ls : List UInt8) (j : Int) : List UInt8 := if sgE s ls.length j = 0 then (ls.drop (j * s.seg).toNat).take (szV s j s.seg s.tail).toNat else []

theorem sgR_len (s : Sh) (ls : List UInt8) (j : Int) : (sgR s ls j).length ≤ ls.length := by
  unfold sgR
  split
  · simp; omega
  · simp
theorem sg_size {s : Sh} {m : Nat} (hf : fits s) (hm : (m : Int) = s.size) : m ≤ 16777216 := by
  obtain ⟨k, n, g, z, F⟩ := fits_fit hf
  have e2 : s.size = (z : Int) := by rw [F.eq]; rfl
  have := F.z2
  omega
theorem sg_in {s : Sh} {m : Nat} {j : Int} (hf : fits s) (hE : szE s j = 0) (hm : (m : Int) = s.size) : ∃ r v : Nat, 0 ≤ j ∧ szV s j s.seg s.tail = (v : Int) ∧ j * s.seg = (r : Int) ∧ r + v ≤ m := by
  obtain ⟨k, n, g, z, F⟩ := fits_fit hf
  have hg := F.g1
  have hz1 := F.z1
  have e1 : s.seg = (g : Int) := by rw [F.eq]; rfl
  have e2 : s.size = (z : Int) := by rw [F.eq]; rfl
  have e3 : s.segs = (segsN g z : Nat) := by rw [F.eq]; rfl
  have e4 : s.tail = (tailN g z : Nat) := by rw [F.eq]; rfl
  have hj : 0 ≤ j ∧ j < s.segs := by
    by_cases h : 0 ≤ j ∧ j < s.segs
    · exact h
    · unfold szE at hE
      rw [if_pos hf, if_neg h] at hE
      omega
  obtain ⟨J, rfl⟩ : ∃ J : Nat, j = (J : Int) := ⟨j.toNat, by omega⟩
  have hJ : J < segsN g z := by have := hj.2; rw [e3] at this; omega
  have ht := tail_eq (g := g) (z := z) hg (by omega)
  unfold szV
  rw [if_pos hE, e1, e3, e4]
  by_cases hl : J = segsN g z - 1
  · refine ⟨J * g, tailN g z, by omega, ?_, by simp, ?_⟩
    · rw [if_pos (by omega)]
    · rw [hl, ht]; omega
  · refine ⟨J * g, g, by omega, ?_, by simp, ?_⟩
    · rw [if_neg (by omega)]
    · have h1 : (J + 1) * g ≤ (segsN g z - 1) * g := Nat.mul_le_mul_right _ (by omega)
      rw [Nat.succ_mul] at h1
      omega

set_option maxRecDepth 100000 in
set_option maxHeartbeats 4000000 in
theorem segment_n (s : Sh) (hs : s.Wf) (a : Option Addr) (c m : Nat) (ls : List UInt8) (j : Int) (w : World) (ha : BLies w a ls) (hlen : ls.length = m) (hmc : m ≤ c) : Calls Try.prog 46 #[s.val, .slice a m c, .int .i64 j] w fun e w' => (∃ a' m' c', e = .returned (.tuple #[.slice a' m' c', .int .i64 (sgE s m j : Nat)]) ∧ BOwn w' w.heap.size a' m' c' (sgR s ls j)) ∧ w.grownBy w' none := by
  have hf := fun w => fits_n s hs w
  have hsz := fun w => segsize_n s hs j w
  by_cases hfit : fits s
  · rw [show decide (fits s) = true by rw [decide_eq_true_iff]; exact hfit] at hf
    have HF := Lib.hid hf
    clear hf
    by_cases hm : (m : Int) = s.size
    · by_cases hE : szE s j = 0
      · have e1 : sgE s m j = 0 := by unfold sgE; rw [if_pos hfit, if_pos hm, hE]
        obtain ⟨r, v, j0, e2, e3, hrv⟩ := sg_in hfit hE (m := m) hm
        have e4 : sgR s ls j = (ls.drop r).take v := by unfold sgR; rw [hlen, e1, if_pos rfl, e3, e2]; simp
        have hm2 : m ≤ 16777216 := sg_size hfit hm
        rw [e1, e4]
        rw [hE, e2] at hsz
        have wr : IntKind.i64.wrap (j * s.seg) = (r : Int) := by rw [e3]; exact i64_nat _ (by omega)
        have wrv : IntKind.i64.wrap ((r : Int) + (v : Int)) = (r : Int) + (v : Int) := IntWalk.i64_in _ (by omega)
        have HSZ := Lib.hid hsz
        have HA := Lib.hid ha
        have HLEN := Lib.hid hlen
        clear hsz e1 e2 e3 e4 ha hlen hs hfit hE
        obtain ⟨k, n, g, z, sg, t, b, l⟩ := s
        simp only at hm wr
        subst hm
        unfold Sh.val at HF HSZ ⊢
        go_enter Try.func46, Try.ntmps46
        have HP0 := Lib.hid (show Row _ w.heap.size 47 #[.int .i64 k, .int .i64 n, .int .i64 g, .int .i64 (m : Int), .int .i64 sg, .int .i64 t, .int .i64 b, .int .i64 l] from heap_alloc_new w (.cells #[.int .i64 k, .int .i64 n, .int .i64 g, .int .i64 (m : Int), .int .i64 sg, .int .i64 t, .int .i64 b, .int .i64 l] 47))
        have HG0 := Lib.hid (World.grownBy_alloc w (.cells #[.int .i64 k, .int .i64 n, .int .i64 g, .int .i64 (m : Int), .int .i64 sg, .int .i64 t, .int .i64 b, .int .i64 l] 47) none)
        go_wp2_with (first | (refine wpList_load_row rfl 47 _ rfl w.heap.size rfl 47 #[.int .i64 k, .int .i64 n, .int .i64 g, .int .i64 (m : Int), .int .i64 sg, .int .i64 t, .int .i64 b, .int .i64 l] (0, 0) _ HP0.out Try.underlying47 rfl size_shape ?_))
        refine (HF.out _).mono ?_
        rintro e w1 ⟨rfl, hg⟩
        have hr1 := HP0.out.grown hg
        have c3 := hr1.cell 3
        simp at c3
        have HP1 := Lib.hid hr1
        have HG1 := Lib.hid (grownBy_trans HG0.out hg)
        clear hg hr1
        go_wp2_with (first | (refine wpList_load_row rfl 47 _ rfl w.heap.size rfl 47 #[.int .i64 k, .int .i64 n, .int .i64 g, .int .i64 (m : Int), .int .i64 sg, .int .i64 t, .int .i64 b, .int .i64 l] (0, 0) _ HP1.out Try.underlying47 rfl size_shape ?_))
        refine (HSZ.out _).mono ?_
        rintro e w2 ⟨rfl, hg⟩
        have hr2 := HP1.out.grown hg
        have c2 := hr2.cell 2
        simp at c2
        have HP2 := Lib.hid hr2
        have HG2 := Lib.hid (grownBy_trans HG1.out hg)
        clear hg hr2
        have HPC := Lib.hid (piece_n a c m r v ls w2 (HA.out.grown HG2.out) HLEN.out (by omega) hrv hmc)
        go_wp2_with fail
        refine HPC.out.mono ?_
        rintro e w3 ⟨a3, c3', rfl, ho, hg⟩
        have HO := Lib.hid (ho.mono HG2.out.size)
        have HG3 := Lib.hid (grownBy_trans HG2.out hg)
        clear hg ho
        go_wp2_with fail
        refine bodyPost_ret (by simp [*, results, Try.results46, go_sem]; try rfl) rfl ?_
        exact ⟨⟨_, _, _, rfl, HO.out⟩, HG3.out⟩
      · have e1 : sgE s m j = szE s j := by unfold sgE; rw [if_pos hfit, if_pos hm]
        have e4 : sgR s ls j = [] := by unfold sgR; rw [hlen, e1, if_neg hE]
        have e5 : szV s j s.seg s.tail = 0 := by unfold szV; rw [if_neg hE]
        rw [e1, e4]
        rw [e5] at hsz
        generalize szE s j = E at hsz hE
        have hE' : ¬ (E : Int) = 0 := by omega
        have hE2 : ((E : Int) != 0) = true := by simpa using hE'
        have HSZ := Lib.hid hsz
        clear hsz e1 e4 e5 ha hlen hs hfit hE
        obtain ⟨k, n, g, z, sg, t, b, l⟩ := s
        simp only at hm
        subst hm
        unfold Sh.val at HF HSZ ⊢
        go_enter Try.func46, Try.ntmps46
        have HP0 := Lib.hid (show Row _ w.heap.size 47 #[.int .i64 k, .int .i64 n, .int .i64 g, .int .i64 (m : Int), .int .i64 sg, .int .i64 t, .int .i64 b, .int .i64 l] from heap_alloc_new w (.cells #[.int .i64 k, .int .i64 n, .int .i64 g, .int .i64 (m : Int), .int .i64 sg, .int .i64 t, .int .i64 b, .int .i64 l] 47))
        have HG0 := Lib.hid (World.grownBy_alloc w (.cells #[.int .i64 k, .int .i64 n, .int .i64 g, .int .i64 (m : Int), .int .i64 sg, .int .i64 t, .int .i64 b, .int .i64 l] 47) none)
        go_wp2_with (first | (refine wpList_load_row rfl 47 _ rfl w.heap.size rfl 47 #[.int .i64 k, .int .i64 n, .int .i64 g, .int .i64 (m : Int), .int .i64 sg, .int .i64 t, .int .i64 b, .int .i64 l] (0, 0) _ HP0.out Try.underlying47 rfl size_shape ?_))
        refine (HF.out _).mono ?_
        rintro e w1 ⟨rfl, hg⟩
        have hr1 := HP0.out.grown hg
        have c3 := hr1.cell 3
        simp at c3
        have HP1 := Lib.hid hr1
        have HG1 := Lib.hid (grownBy_trans HG0.out hg)
        clear hg hr1
        go_wp2_with (first | (refine wpList_load_row rfl 47 _ rfl w.heap.size rfl 47 #[.int .i64 k, .int .i64 n, .int .i64 g, .int .i64 (m : Int), .int .i64 sg, .int .i64 t, .int .i64 b, .int .i64 l] (0, 0) _ HP1.out Try.underlying47 rfl size_shape ?_))
        refine (HSZ.out _).mono ?_
        rintro e w2 ⟨rfl, hg⟩
        have hr2 := HP1.out.grown hg
        have c2 := hr2.cell 2
        simp at c2
        have HP2 := Lib.hid hr2
        have HG2 := Lib.hid (grownBy_trans HG1.out hg)
        clear hg hr2
        go_wp2_with fail
        refine bodyPost_ret (by simp [*, results, Try.results46, go_sem]; try rfl) rfl ?_
        exact ⟨⟨_, _, _, rfl, Own.nil _ _ _ _ _⟩, HG2.out⟩
    · have e1 : sgE s m j = 91 := by unfold sgE; rw [if_pos hfit, if_neg hm]
      have e4 : sgR s ls j = [] := by unfold sgR; rw [hlen, e1]; rfl
      rw [e1, e4]
      clear hsz e1 e4 ha hlen hs hfit
      obtain ⟨k, n, g, z, sg, t, b, l⟩ := s
      simp only at hm
      have hmb : ((m : Int) != z) = true := by rw [bne_iff_ne]; exact hm
      unfold Sh.val at HF ⊢
      go_enter Try.func46, Try.ntmps46
      have HP0 := Lib.hid (show Row _ w.heap.size 47 #[.int .i64 k, .int .i64 n, .int .i64 g, .int .i64 z, .int .i64 sg, .int .i64 t, .int .i64 b, .int .i64 l] from heap_alloc_new w (.cells #[.int .i64 k, .int .i64 n, .int .i64 g, .int .i64 z, .int .i64 sg, .int .i64 t, .int .i64 b, .int .i64 l] 47))
      have HG0 := Lib.hid (World.grownBy_alloc w (.cells #[.int .i64 k, .int .i64 n, .int .i64 g, .int .i64 z, .int .i64 sg, .int .i64 t, .int .i64 b, .int .i64 l] 47) none)
      go_wp2_with (first | (refine wpList_load_row rfl 47 _ rfl w.heap.size rfl 47 #[.int .i64 k, .int .i64 n, .int .i64 g, .int .i64 z, .int .i64 sg, .int .i64 t, .int .i64 b, .int .i64 l] (0, 0) _ HP0.out Try.underlying47 rfl size_shape ?_))
      refine (HF.out _).mono ?_
      rintro e w1 ⟨rfl, hg⟩
      have hr1 := HP0.out.grown hg
      have c3 := hr1.cell 3
      simp at c3
      have HP1 := Lib.hid hr1
      have HG1 := Lib.hid (grownBy_trans HG0.out hg)
      clear hg hr1
      go_wp2_with fail
      refine bodyPost_ret (by simp [*, results, Try.results46, go_sem]; try rfl) rfl ?_
      exact ⟨⟨_, _, _, rfl, Own.nil _ _ _ _ _⟩, HG1.out⟩
  · rw [show decide (fits s) = false by rw [decide_eq_false_iff_not]; exact hfit] at hf
    have HF := Lib.hid hf
    have e1 : sgE s m j = 92 := by unfold sgE; rw [if_neg hfit]
    have e4 : sgR s ls j = [] := by unfold sgR; rw [hlen, e1]; rfl
    rw [e1, e4]
    clear hf hsz e1 e4 ha hlen hs hfit
    obtain ⟨k, n, g, z, sg, t, b, l⟩ := s
    unfold Sh.val at HF ⊢
    go_enter Try.func46, Try.ntmps46
    have HP0 := Lib.hid (show Row _ w.heap.size 47 #[.int .i64 k, .int .i64 n, .int .i64 g, .int .i64 z, .int .i64 sg, .int .i64 t, .int .i64 b, .int .i64 l] from heap_alloc_new w (.cells #[.int .i64 k, .int .i64 n, .int .i64 g, .int .i64 z, .int .i64 sg, .int .i64 t, .int .i64 b, .int .i64 l] 47))
    have HG0 := Lib.hid (World.grownBy_alloc w (.cells #[.int .i64 k, .int .i64 n, .int .i64 g, .int .i64 z, .int .i64 sg, .int .i64 t, .int .i64 b, .int .i64 l] 47) none)
    go_wp2_with (first | (refine wpList_load_row rfl 47 _ rfl w.heap.size rfl 47 #[.int .i64 k, .int .i64 n, .int .i64 g, .int .i64 z, .int .i64 sg, .int .i64 t, .int .i64 b, .int .i64 l] (0, 0) _ HP0.out Try.underlying47 rfl size_shape ?_))
    refine (HF.out _).mono ?_
    rintro e w1 ⟨rfl, hg⟩
    have hr1 := HP0.out.grown hg
    have c3 := hr1.cell 3
    simp at c3
    have HP1 := Lib.hid hr1
    have HG1 := Lib.hid (grownBy_trans HG0.out hg)
    clear hg hr1
    go_wp2_with fail
    refine bodyPost_ret (by simp [*, results, Try.results46, go_sem]; try rfl) rfl ?_
    exact ⟨⟨_, _, _, rfl, Own.nil _ _ _ _ _⟩, HG1.out⟩

set_option maxRecDepth 100000 in
set_option maxHeartbeats 4000000 in
theorem refSegment_n (s : Sh) (hs : s.Wf) (a : Option Addr) (c m : Nat) (ls : List UInt8) (j : Int) (w : World) (ha : BLies w a ls) (hlen : ls.length = m) (hmc : m ≤ c) : Calls Try.prog 47 #[s.val, .slice a m c, .int .i64 j] w fun e w' => (∃ a' m' c', e = .returned (.tuple #[.slice a' m' c', .int .i64 (sgE s m j : Nat)]) ∧ BOwn w' w.heap.size a' m' c' (sgR s ls j)) ∧ w.grownBy w' none := by
  have hf := fun w => refFits_n s hs w
  have hsz := fun w => refSegSize_n s hs j w
  by_cases hfit : fits s
  · rw [show decide (fits s) = true by rw [decide_eq_true_iff]; exact hfit] at hf
    have HF := Lib.hid hf
    clear hf
    by_cases hm : (m : Int) = s.size
    · by_cases hE : szE s j = 0
      · have e1 : sgE s m j = 0 := by unfold sgE; rw [if_pos hfit, if_pos hm, hE]
        obtain ⟨r, v, j0, e2, e3, hrv⟩ := sg_in hfit hE (m := m) hm
        have e4 : sgR s ls j = (ls.drop r).take v := by unfold sgR; rw [hlen, e1, if_pos rfl, e3, e2]; simp
        have hm2 : m ≤ 16777216 := sg_size hfit hm
        rw [e1, e4]
        rw [hE, e2] at hsz
        have wr : IntKind.i64.wrap (j * s.seg) = (r : Int) := by rw [e3]; exact i64_nat _ (by omega)
        have wrv : IntKind.i64.wrap ((r : Int) + (v : Int)) = (r : Int) + (v : Int) := IntWalk.i64_in _ (by omega)
        have HSZ := Lib.hid hsz
        have HA := Lib.hid ha
        have HLEN := Lib.hid hlen
        clear hsz e1 e2 e3 e4 ha hlen hs hfit hE
        obtain ⟨k, n, g, z, sg, t, b, l⟩ := s
        simp only at hm wr
        subst hm
        unfold Sh.val at HF HSZ ⊢
        go_enter Try.func47, Try.ntmps47
        have HP0 := Lib.hid (show Row _ w.heap.size 47 #[.int .i64 k, .int .i64 n, .int .i64 g, .int .i64 (m : Int), .int .i64 sg, .int .i64 t, .int .i64 b, .int .i64 l] from heap_alloc_new w (.cells #[.int .i64 k, .int .i64 n, .int .i64 g, .int .i64 (m : Int), .int .i64 sg, .int .i64 t, .int .i64 b, .int .i64 l] 47))
        have HG0 := Lib.hid (World.grownBy_alloc w (.cells #[.int .i64 k, .int .i64 n, .int .i64 g, .int .i64 (m : Int), .int .i64 sg, .int .i64 t, .int .i64 b, .int .i64 l] 47) none)
        go_wp2_with (first | (refine wpList_load_row rfl 47 _ rfl w.heap.size rfl 47 #[.int .i64 k, .int .i64 n, .int .i64 g, .int .i64 (m : Int), .int .i64 sg, .int .i64 t, .int .i64 b, .int .i64 l] (0, 0) _ HP0.out Try.underlying47 rfl size_shape ?_))
        refine (HF.out _).mono ?_
        rintro e w1 ⟨rfl, hg⟩
        have hr1 := HP0.out.grown hg
        have c3 := hr1.cell 3
        simp at c3
        have HP1 := Lib.hid hr1
        have HG1 := Lib.hid (grownBy_trans HG0.out hg)
        clear hg hr1
        go_wp2_with (first | (refine wpList_load_row rfl 47 _ rfl w.heap.size rfl 47 #[.int .i64 k, .int .i64 n, .int .i64 g, .int .i64 (m : Int), .int .i64 sg, .int .i64 t, .int .i64 b, .int .i64 l] (0, 0) _ HP1.out Try.underlying47 rfl size_shape ?_))
        refine (HSZ.out _).mono ?_
        rintro e w2 ⟨rfl, hg⟩
        have hr2 := HP1.out.grown hg
        have c2 := hr2.cell 2
        simp at c2
        have HP2 := Lib.hid hr2
        have HG2 := Lib.hid (grownBy_trans HG1.out hg)
        clear hg hr2
        have HD := Lib.hid (HA.out.grown HG2.out)
        have hszw := HG2.out.size
        have hrv1 : r ≤ r + v := Nat.le_add_right _ _
        have hfc : r + v ≤ c := by omega
        by_cases hv0 : v = 0
        · subst hv0
          go_wp2_with (at_builtin; refine Lib.wpList_append_run _ rfl _ _ _ _ rfl _ _ rfl rfl _ _ (run_app_none _ _ _ _) ?_)
          all_goals (
            refine bodyPost_ret (by simp [*, results, Try.results47, go_sem]; try rfl) rfl ?_
            exact ⟨⟨_, _, _, rfl, Own.nil _ _ _ _ _⟩, HG2.out⟩)
        have hml : 0 < ls.length := by have := HLEN.out; omega
        obtain ⟨ab, aoff, hab⟩ := HD.out.addr hml
        subst hab
        have HDR := Lib.hid ((HD.out.drop r).take v)
        have hdl : ((ls.drop r).take v).length = v := by have := HLEN.out; simp; omega
        have HDL := Lib.hid hdl
        clear hdl hml
        go_wp2_with (at_builtin; refine wpList_app elB rfl (.tmp 28) (.tmp 40) rfl rfl (Own.nil _ w.heap.size _ _ _) ⟨ab, aoff + r, none⟩ v _ (((ls.drop r).take v).map bval) (by simp [*, go_sem]; try rfl) (by rw [List.length_map, HDL.out, Nat.mul_one]) HDR.out.news (bval_one _) (by unfold maxLen; omega) (by omega) hszw (by omega) ?_; intro g3 cap w3 hown3 hgr3)
        refine bodyPost_ret (by simp [*, results, Try.results47, go_sem]; try rfl) rfl ?_
        simp only [Nat.zero_add, List.nil_append] at hown3
        exact ⟨⟨_, _, _, by simp; try rfl, hown3⟩, hgr3.grew.grown (Own.nil _ w.heap.size 5 1 _) HG2.out (Nat.le_refl _)⟩
      · have e1 : sgE s m j = szE s j := by unfold sgE; rw [if_pos hfit, if_pos hm]
        have e4 : sgR s ls j = [] := by unfold sgR; rw [hlen, e1, if_neg hE]
        have e5 : szV s j s.seg s.tail = 0 := by unfold szV; rw [if_neg hE]
        rw [e1, e4]
        rw [e5] at hsz
        generalize szE s j = E at hsz hE
        have hE' : ¬ (E : Int) = 0 := by omega
        have hE2 : ((E : Int) != 0) = true := by simpa using hE'
        have HSZ := Lib.hid hsz
        clear hsz e1 e4 e5 ha hlen hs hfit hE
        obtain ⟨k, n, g, z, sg, t, b, l⟩ := s
        simp only at hm
        subst hm
        unfold Sh.val at HF HSZ ⊢
        go_enter Try.func47, Try.ntmps47
        have HP0 := Lib.hid (show Row _ w.heap.size 47 #[.int .i64 k, .int .i64 n, .int .i64 g, .int .i64 (m : Int), .int .i64 sg, .int .i64 t, .int .i64 b, .int .i64 l] from heap_alloc_new w (.cells #[.int .i64 k, .int .i64 n, .int .i64 g, .int .i64 (m : Int), .int .i64 sg, .int .i64 t, .int .i64 b, .int .i64 l] 47))
        have HG0 := Lib.hid (World.grownBy_alloc w (.cells #[.int .i64 k, .int .i64 n, .int .i64 g, .int .i64 (m : Int), .int .i64 sg, .int .i64 t, .int .i64 b, .int .i64 l] 47) none)
        go_wp2_with (first | (refine wpList_load_row rfl 47 _ rfl w.heap.size rfl 47 #[.int .i64 k, .int .i64 n, .int .i64 g, .int .i64 (m : Int), .int .i64 sg, .int .i64 t, .int .i64 b, .int .i64 l] (0, 0) _ HP0.out Try.underlying47 rfl size_shape ?_))
        refine (HF.out _).mono ?_
        rintro e w1 ⟨rfl, hg⟩
        have hr1 := HP0.out.grown hg
        have c3 := hr1.cell 3
        simp at c3
        have HP1 := Lib.hid hr1
        have HG1 := Lib.hid (grownBy_trans HG0.out hg)
        clear hg hr1
        go_wp2_with (first | (refine wpList_load_row rfl 47 _ rfl w.heap.size rfl 47 #[.int .i64 k, .int .i64 n, .int .i64 g, .int .i64 (m : Int), .int .i64 sg, .int .i64 t, .int .i64 b, .int .i64 l] (0, 0) _ HP1.out Try.underlying47 rfl size_shape ?_))
        refine (HSZ.out _).mono ?_
        rintro e w2 ⟨rfl, hg⟩
        have hr2 := HP1.out.grown hg
        have c2 := hr2.cell 2
        simp at c2
        have HP2 := Lib.hid hr2
        have HG2 := Lib.hid (grownBy_trans HG1.out hg)
        clear hg hr2
        go_wp2_with fail
        refine bodyPost_ret (by simp [*, results, Try.results47, go_sem]; try rfl) rfl ?_
        exact ⟨⟨_, _, _, rfl, Own.nil _ _ _ _ _⟩, HG2.out⟩
    · have e1 : sgE s m j = 91 := by unfold sgE; rw [if_pos hfit, if_neg hm]
      have e4 : sgR s ls j = [] := by unfold sgR; rw [hlen, e1]; rfl
      rw [e1, e4]
      clear hsz e1 e4 ha hlen hs hfit
      obtain ⟨k, n, g, z, sg, t, b, l⟩ := s
      simp only at hm
      have hmb : ((m : Int) != z) = true := by rw [bne_iff_ne]; exact hm
      unfold Sh.val at HF ⊢
      go_enter Try.func47, Try.ntmps47
      have HP0 := Lib.hid (show Row _ w.heap.size 47 #[.int .i64 k, .int .i64 n, .int .i64 g, .int .i64 z, .int .i64 sg, .int .i64 t, .int .i64 b, .int .i64 l] from heap_alloc_new w (.cells #[.int .i64 k, .int .i64 n, .int .i64 g, .int .i64 z, .int .i64 sg, .int .i64 t, .int .i64 b, .int .i64 l] 47))
      have HG0 := Lib.hid (World.grownBy_alloc w (.cells #[.int .i64 k, .int .i64 n, .int .i64 g, .int .i64 z, .int .i64 sg, .int .i64 t, .int .i64 b, .int .i64 l] 47) none)
      go_wp2_with (first | (refine wpList_load_row rfl 47 _ rfl w.heap.size rfl 47 #[.int .i64 k, .int .i64 n, .int .i64 g, .int .i64 z, .int .i64 sg, .int .i64 t, .int .i64 b, .int .i64 l] (0, 0) _ HP0.out Try.underlying47 rfl size_shape ?_))
      refine (HF.out _).mono ?_
      rintro e w1 ⟨rfl, hg⟩
      have hr1 := HP0.out.grown hg
      have c3 := hr1.cell 3
      simp at c3
      have HP1 := Lib.hid hr1
      have HG1 := Lib.hid (grownBy_trans HG0.out hg)
      clear hg hr1
      go_wp2_with fail
      refine bodyPost_ret (by simp [*, results, Try.results47, go_sem]; try rfl) rfl ?_
      exact ⟨⟨_, _, _, rfl, Own.nil _ _ _ _ _⟩, HG1.out⟩
  · rw [show decide (fits s) = false by rw [decide_eq_false_iff_not]; exact hfit] at hf
    have HF := Lib.hid hf
    have e1 : sgE s m j = 92 := by unfold sgE; rw [if_neg hfit]
    have e4 : sgR s ls j = [] := by unfold sgR; rw [hlen, e1]; rfl
    rw [e1, e4]
    clear hf hsz e1 e4 ha hlen hs hfit
    obtain ⟨k, n, g, z, sg, t, b, l⟩ := s
    unfold Sh.val at HF ⊢
    go_enter Try.func47, Try.ntmps47
    have HP0 := Lib.hid (show Row _ w.heap.size 47 #[.int .i64 k, .int .i64 n, .int .i64 g, .int .i64 z, .int .i64 sg, .int .i64 t, .int .i64 b, .int .i64 l] from heap_alloc_new w (.cells #[.int .i64 k, .int .i64 n, .int .i64 g, .int .i64 z, .int .i64 sg, .int .i64 t, .int .i64 b, .int .i64 l] 47))
    have HG0 := Lib.hid (World.grownBy_alloc w (.cells #[.int .i64 k, .int .i64 n, .int .i64 g, .int .i64 z, .int .i64 sg, .int .i64 t, .int .i64 b, .int .i64 l] 47) none)
    go_wp2_with (first | (refine wpList_load_row rfl 47 _ rfl w.heap.size rfl 47 #[.int .i64 k, .int .i64 n, .int .i64 g, .int .i64 z, .int .i64 sg, .int .i64 t, .int .i64 b, .int .i64 l] (0, 0) _ HP0.out Try.underlying47 rfl size_shape ?_))
    refine (HF.out _).mono ?_
    rintro e w1 ⟨rfl, hg⟩
    have hr1 := HP0.out.grown hg
    have c3 := hr1.cell 3
    simp at c3
    have HP1 := Lib.hid hr1
    have HG1 := Lib.hid (grownBy_trans HG0.out hg)
    clear hg hr1
    go_wp2_with fail
    refine bodyPost_ret (by simp [*, results, Try.results47, go_sem]; try rfl) rfl ?_
    exact ⟨⟨_, _, _, rfl, Own.nil _ _ _ _ _⟩, HG1.out⟩

end Go.Proofs.Ytfboddnpkaiifaa
/- cut.Join of every list and size; the document's Join. -/
namespace Go.Proofs.Ytfboddnpkaiifaa
open Go.RowKit

theorem quietU {P : Program} {f : FuncId} {args : Array Value} {w : World} {n : Nat} {v : Value} (h : Calls P f args (w.drewN n) fun e w' => e = .returned v ∧ ∃ q, w' = (w.drewN n).drewN q) : Calls P f args (w.drewN n) fun e w'' => e = .returned v ∧ ∃ m, w'' = w.drewN m :=
  h.mono fun _ _ ⟨he, q, hw⟩ => ⟨he, n + q, by rw [hw, World.drewN_drewN]⟩

set_option maxRecDepth 100000 in
set_option maxHeartbeats 4000000 in
theorem join_n (a : Option Addr) (c K : Nat) (z : Int) (L : List Sl) (bs : List (List UInt8)) (w : World) (hL : LLies w a L bs) (hK : bs.length = K) :
    Calls Try.prog 23 #[.slice a K c, .int .i64 z] w fun e w' => (∃ a' m c', e = .returned (.tuple #[.slice a' m c', .int .i64 (jnE bs z : Nat)]) ∧ BOwn w' w.heap.size a' m c' (jnR bs z)) ∧ w.grownBy w' none := by
  have hno : ¬ jnOk bs z → jnE bs z = 91 ∧ jnR bs z = [] := fun h => ⟨by unfold jnE; rw [if_neg h], by unfold jnR; rw [if_neg h]⟩
  by_cases h1 : K < 1
  · obtain ⟨hE, hR⟩ := hno (fun h => by have := h.1; omega)
    rw [hE, hR]
    obtain rfl : K = 0 := by omega
    clear hE hR hno hL hK h1
    go_enter Try.func23, Try.ntmps23
    go_wp2_with fail
    refine bodyPost_ret (by simp [*, results, Try.results23, go_sem]; try rfl) rfl ?_
    exact ⟨⟨none, 0, 0, rfl, Own.nil _ _ _ _ _⟩, World.grownBy.refl _ _⟩
  by_cases h2 : 255 < K
  · obtain ⟨hE, hR⟩ := hno (fun h => by have := h.2.1; omega)
    rw [hE, hR]
    have d1 : decide ((K : Int) < 1) = false := by simp; omega
    have d2 : decide ((255 : Int) < (K : Int)) = true := by simp; omega
    clear hE hR hno hL hK h1 h2
    go_enter Try.func23, Try.ntmps23
    go_wp2_with fail
    refine bodyPost_ret (by simp [*, results, Try.results23, go_sem]; try rfl) rfl ?_
    exact ⟨⟨none, 0, 0, rfl, Own.nil _ _ _ _ _⟩, World.grownBy.refl _ _⟩
  have d1 : decide ((K : Int) < 1) = false := by simp; omega
  have d2 : decide ((255 : Int) < (K : Int)) = false := by simp; omega
  by_cases h3 : z < 1
  · obtain ⟨hE, hR⟩ := hno (fun h => by have := h.2.2.1; omega)
    rw [hE, hR]
    have d3 : decide (z < 1) = true := by simp; omega
    clear hE hR hno hL hK h1 h2 h3
    go_enter Try.func23, Try.ntmps23
    go_wp2_with fail
    refine bodyPost_ret (by simp [*, results, Try.results23, go_sem]; try rfl) rfl ?_
    exact ⟨⟨none, 0, 0, rfl, Own.nil _ _ _ _ _⟩, World.grownBy.refl _ _⟩
  obtain ⟨z, rfl⟩ : ∃ n : Nat, z = (n : Int) := ⟨z.toNat, by omega⟩
  have d3 : decide ((z : Int) < 1) = false := by simp; omega
  have d3' : decide (z < 1) = false := by simp; omega
  have k1 : 1 ≤ K := by omega
  have k2 : K ≤ 255 := by omega
  by_cases h4 : K * upN 65536 K < z
  · obtain ⟨hE, hR⟩ := hno (fun h => by have h5 := h.2.2.2.1; rw [hK] at h5; omega)
    rw [hE, hR]
    obtain ⟨U, hU⟩ : ∃ U, U = upN 65536 K := ⟨_, rfl⟩
    have hUl : U ≤ 65536 := by rw [hU]; exact upN_small k1
    have hup : ∀ w, Calls Try.prog 51 #[.int .i64 65536, .int .i64 K] w fun e w' => e = .returned (.int .i64 (upN 65536 K : Nat)) ∧ w = w' := fun w => up_n 65536 K w (by omega) k1 (by omega)
    rw [← hU] at h4 hup
    have HU := Lib.hid hup
    obtain ⟨M, hM⟩ : ∃ M, M = K * U := ⟨_, rfl⟩
    have hM2 : M ≤ 255 * 65536 := by rw [hM]; exact Nat.mul_le_mul k2 hUl
    have wU : IntKind.i64.wrap ((K : Int) * (U : Int)) = (M : Int) := by rw [hM]; rw [show ((K : Int) * (U : Int)) = ((K * U : Nat) : Int) by simp]; rw [← hM]; exact i64_nat _ (by omega)
    rw [← hM] at h4
    have d4 : decide ((M : Int) < (z : Int)) = true := by simp; omega
    have d5 : decide (M < z) = true := by simp; omega
    clear hE hR hno hL hK hU hup hM h1 h2 h3
    go_enter Try.func23, Try.ntmps23
    go_wp2_with fail
    refine (HU.out _).mono ?_
    rintro e w' ⟨rfl, rfl⟩
    go_wp2_with fail
    refine bodyPost_ret (by simp [*, results, Try.results23, go_sem]; try rfl) rfl ?_
    exact ⟨⟨none, 0, 0, rfl, Own.nil _ _ _ _ _⟩, World.grownBy.refl _ _⟩
  · have B := bk_num k1 k2 (by omega : 1 ≤ z) (by omega)
    refine (join_ok a c K z (upN 65536 K) (upN z K) L bs w hL hK B rfl rfl).mono ?_
    rintro e w' ⟨h, hg⟩
    refine ⟨?_, hg⟩
    rcases h with ⟨hall, a', c', he, ho⟩ | ⟨hn, he⟩
    · have hok : jnOk bs (z : Int) := ⟨by omega, by omega, by omega, by rw [hK]; omega, by rw [hK, Int.toNat_natCast]; exact hall⟩
      have hE : jnE bs (z : Int) = 0 := by unfold jnE; rw [if_pos hok]
      have hR : jnR bs (z : Int) = bs.flatten.take z := by unfold jnR; rw [if_pos hok, Int.toNat_natCast]
      rw [hE, hR]
      exact ⟨a', z, c', he, ho⟩
    · obtain ⟨hE, hR⟩ := hno (fun h => hn (by have h5 := h.2.2.2.2; rw [hK, Int.toNat_natCast] at h5; exact h5))
      rw [hE, hR]
      exact ⟨none, 0, 0, he, Own.nil _ _ _ _ _⟩

set_option maxRecDepth 100000 in
set_option maxHeartbeats 4000000 in
theorem refJoin_n (a : Option Addr) (c K : Nat) (z : Int) (L : List Sl) (bs : List (List UInt8)) (w : World) (hL : LLies w a L bs) (hK : bs.length = K) :
    Calls Try.prog 26 #[.slice a K c, .int .i64 z] w fun e w' => (∃ a' m c', e = .returned (.tuple #[.slice a' m c', .int .i64 (jnE bs z : Nat)]) ∧ BLies w' a' (jnR bs z) ∧ (jnR bs z).length = m ∧ m ≤ 100000000) ∧ w.grownBy w' none := by
  have hno : ¬ jnOk bs z → jnE bs z = 91 ∧ jnR bs z = [] := fun h => ⟨by unfold jnE; rw [if_neg h], by unfold jnR; rw [if_neg h]⟩
  by_cases h1 : K < 1
  · obtain ⟨hE, hR⟩ := hno (fun h => by have := h.1; omega)
    rw [hE, hR]
    obtain rfl : K = 0 := by omega
    clear hE hR hno hL hK h1
    go_enter Try.func26, Try.ntmps26
    go_wp2_with fail
    refine bodyPost_ret (by simp [*, results, Try.results26, go_sem]; try rfl) rfl ?_
    exact ⟨⟨none, 0, 0, rfl, BLies.nil _ _, rfl, by omega⟩, World.grownBy.refl _ _⟩
  by_cases h2 : 255 < K
  · obtain ⟨hE, hR⟩ := hno (fun h => by have := h.2.1; omega)
    rw [hE, hR]
    have d1 : decide ((K : Int) < 1) = false := by simp; omega
    have d2 : decide ((255 : Int) < (K : Int)) = true := by simp; omega
    clear hE hR hno hL hK h1 h2
    go_enter Try.func26, Try.ntmps26
    go_wp2_with fail
    refine bodyPost_ret (by simp [*, results, Try.results26, go_sem]; try rfl) rfl ?_
    exact ⟨⟨none, 0, 0, rfl, BLies.nil _ _, rfl, by omega⟩, World.grownBy.refl _ _⟩
  have d1 : decide ((K : Int) < 1) = false := by simp; omega
  have d2 : decide ((255 : Int) < (K : Int)) = false := by simp; omega
  by_cases h3 : z < 1
  · obtain ⟨hE, hR⟩ := hno (fun h => by have := h.2.2.1; omega)
    rw [hE, hR]
    have d3 : decide (z < 1) = true := by simp; omega
    clear hE hR hno hL hK h1 h2 h3
    go_enter Try.func26, Try.ntmps26
    go_wp2_with fail
    refine bodyPost_ret (by simp [*, results, Try.results26, go_sem]; try rfl) rfl ?_
    exact ⟨⟨none, 0, 0, rfl, BLies.nil _ _, rfl, by omega⟩, World.grownBy.refl _ _⟩
  obtain ⟨z, rfl⟩ : ∃ n : Nat, z = (n : Int) := ⟨z.toNat, by omega⟩
  have d3 : decide ((z : Int) < 1) = false := by simp; omega
  have d3' : decide (z < 1) = false := by simp; omega
  have k1 : 1 ≤ K := by omega
  have k2 : K ≤ 255 := by omega
  by_cases h4 : K * upN 65536 K < z
  · obtain ⟨hE, hR⟩ := hno (fun h => by have h5 := h.2.2.2.1; rw [hK] at h5; omega)
    rw [hE, hR]
    obtain ⟨U, hU⟩ : ∃ U, U = upN 65536 K := ⟨_, rfl⟩
    have hUl : U ≤ 65536 := by rw [hU]; exact upN_small k1
    have hup : ∀ w, Calls Try.prog 54 #[.int .i64 65536, .int .i64 K] w fun e w' => e = .returned (.int .i64 (upN 65536 K : Nat)) ∧ ∃ q, w' = w.drewN q := fun w => refUp_n 65536 K w (by omega) k1 (by omega)
    rw [← hU] at h4 hup
    have HU := Lib.hid hup
    obtain ⟨M, hM⟩ : ∃ M, M = K * U := ⟨_, rfl⟩
    have hM2 : M ≤ 255 * 65536 := by rw [hM]; exact Nat.mul_le_mul k2 hUl
    have wU : IntKind.i64.wrap ((K : Int) * (U : Int)) = (M : Int) := by rw [hM]; rw [show ((K : Int) * (U : Int)) = ((K * U : Nat) : Int) by simp]; rw [← hM]; exact i64_nat _ (by omega)
    rw [← hM] at h4
    have d4 : decide ((M : Int) < (z : Int)) = true := by simp; omega
    have d5 : decide (M < z) = true := by simp; omega
    clear hE hR hno hL hK hU hup hM h1 h2 h3
    go_enter Try.func26, Try.ntmps26
    go_wp2_with fail
    refine (HU.out _).mono ?_
    rintro e w' ⟨rfl, q0, rfl⟩
    go_wp2_with fail
    refine bodyPost_ret (by simp [*, results, Try.results26, go_sem]; try rfl) rfl ?_
    exact ⟨⟨none, 0, 0, rfl, BLies.nil _ _, rfl, by omega⟩, grownBy_drewN _ _ _⟩
  · have B := bk_num k1 k2 (by omega : 1 ≤ z) (by omega)
    have hoks : (∀ b ∈ bs, b.length = upN z K) → jnE bs (z : Int) = 0 ∧ jnR bs (z : Int) = bs.flatten.take z := fun hall => by
      have hok : jnOk bs (z : Int) := ⟨by omega, by omega, by omega, by rw [hK]; omega, by rw [hK, Int.toNat_natCast]; exact hall⟩
      exact ⟨by unfold jnE; rw [if_pos hok], by unfold jnR; rw [if_pos hok, Int.toNat_natCast]⟩
    have hbad : (¬ ∀ b ∈ bs, b.length = upN z K) → jnE bs (z : Int) = 91 ∧ jnR bs (z : Int) = [] := fun hn => hno (fun h => hn (by have h5 := h.2.2.2.2; rw [hK, Int.toNat_natCast] at h5; exact h5))
    have hup1 : ∀ w, Calls Try.prog 54 #[.int .i64 65536, .int .i64 K] w fun e w' => e = .returned (.int .i64 (upN 65536 K : Nat)) ∧ ∃ q, w' = w.drewN q := fun w => refUp_n 65536 K w (by omega) k1 (by omega)
    have hup2 : ∀ w, Calls Try.prog 54 #[.int .i64 z, .int .i64 K] w fun e w' => e = .returned (.int .i64 (upN z K : Nat)) ∧ ∃ q, w' = w.drewN q := fun w => refUp_n z K w (by have := B.nU; have := B.kU; omega) k1 (by omega)
    have hfl : ∀ q, (∀ b ∈ bs, b.length = q) → bs.flatten.length = K * q := fun q h => by rw [flatten_len h, hK]
    obtain ⟨U, hU⟩ : ∃ U, U = upN 65536 K := ⟨_, rfl⟩
    obtain ⟨q, hq⟩ : ∃ q, q = upN z K := ⟨_, rfl⟩
    rw [← hU, ← hq] at B
    rw [← hU] at hup1
    rw [← hq] at hup2 hoks hbad
    obtain ⟨k1', k2', n1, nU, U1, kU, q1, qn, kq, kq2⟩ := B
    obtain ⟨M, hM⟩ : ∃ M, M = K * U := ⟨_, rfl⟩
    rw [← hM] at nU kU
    have wU : IntKind.i64.wrap ((K : Int) * (U : Int)) = (M : Int) := by rw [hM]; rw [show ((K : Int) * (U : Int)) = ((K * U : Nat) : Int) by simp]; rw [← hM]; exact i64_nat _ (by omega)
    obtain ⟨N, hN⟩ : ∃ N, N = K * q := ⟨_, rfl⟩
    rw [← hN] at kq kq2
    have HU1 := Lib.hid hup1
    have HU2 := Lib.hid hup2
    have HLL := Lib.hid hL
    have HK := Lib.hid hK
    have HN := Lib.hid hN
    have HKQ := Lib.hid kq
    have HOK := Lib.hid hoks
    have HBAD := Lib.hid hbad
    have HFL := Lib.hid hfl
    have d4 : decide (M < z) = false := by rw [decide_eq_false_iff_not]; omega
    have d5 : decide ((M : Int) < (z : Int)) = false := by rw [decide_eq_false_iff_not]; omega
    clear hup1 hup2 hL hK hU hq hM hN kq hoks hbad hfl hno h1 h2 h3 h4 k1' k2'
    go_enter Try.func26, Try.ntmps26
    go_wp2_with fail
    refine (HU1.out _).mono ?_
    rintro e w' ⟨rfl, q0, hw0⟩
    have hg0 : w.grownBy w' none := by rw [hw0]; exact grownBy_drewN _ _ _
    have HG0 := Lib.hid hg0
    clear hw0 hg0
    go_wp2_with fail
    go_loopw [7, 8] (fun v vi wr => ∃ (i r : Nat) (a' : Option Addr) (c' : Nat), i ≤ K ∧ Hid (r = i * q) ∧ vi = .int .i64 i ∧ v = .slice a' r c' ∧ Hid (BOwn wr w.heap.size a' r c' (bs.take i).flatten) ∧ Hid (∀ b ∈ bs.take i, b.length = q) ∧ Hid (w.grownBy wr none)) (fun _ vi _ => K - (intOf vi).toNat)
    case atStart => exact ⟨0, 0, none, 0, by omega, Lib.hid (by simp), rfl, rfl, Lib.hid (Own.nil _ _ _ _ _), Lib.hid (by simp), HG0⟩
    case round =>
      obtain ⟨i, r, a', c', hi, HRi, rfl, rfl, HO, HM, HG⟩ := hrel
      by_cases hlt : i < K
      · have hib : i < bs.length := by have := HK.out; omega
        have hiL : i < L.length := by have := HLL.out.2.1; omega
        obtain ⟨s, hs⟩ : ∃ s, s = L[i] := ⟨_, rfl⟩
        obtain ⟨b0, hb0⟩ : ∃ b0, b0 = bs[i] := ⟨_, rfl⟩
        have hLw := HLL.out.grown HG.out
        obtain ⟨gb, goff, rfl, hcell⟩ := hLw.1 i (by simpa using hiL)
        rw [List.getElem_map, ← hs] at hcell
        have hin := hLw.2.2 i hiL hib
        rw [← hs, ← hb0] at hin
        obtain ⟨sa, sn, sc⟩ := s
        obtain ⟨hbl, hbn⟩ := hin
        simp only at hbl hbn
        simp only [Sl.val] at hcell
        have HB := Lib.hid hbl
        have HBN := Lib.hid hbn
        have HB0 := Lib.hid hb0
        have HS := Lib.hid hs
        have HCE := Lib.hid hcell
        clear hbl hbn hb0 hs hLw
        by_cases he : sn = q
        · subst he
          obtain ⟨bb, boff, rfl⟩ := HB.out.addr (by have := HBN.out; omega)
          have hrN : r + sn ≤ N := by
            have h1 : (i + 1) * sn ≤ K * sn := Nat.mul_le_mul_right _ hlt
            rw [Nat.succ_mul] at h1
            have := HRi.out
            have := HN.out
            omega
          go_wp2_with fail
          go_quiet ((go_at_call 54; exact quietU (HU2.out _)))
          have hgd : wr.grownBy (wr.drewN nq) none := grownBy_drewN _ _ _
          obtain ⟨w5, hw5⟩ : ∃ w5, w5 = wr.drewN nq := ⟨_, rfl⟩
          rw [← hw5] at hgd ⊢
          have HO5 : Hid (BOwn w5 w.heap.size a' r c' (bs.take i).flatten) := Lib.hid (BOwn.grown HO.out hgd)
          have HG5 := Lib.hid (grownBy_trans HG.out hgd)
          have HB5 := Lib.hid (HB.out.grown hgd)
          have hce5 : w5.cell? ⟨gb, goff + i, none⟩ = some (.slice (some ⟨bb, boff, none⟩) sn sc) := (World.cell?_of_block (hgd.block gb (World.block_lt_of_cell? _ _ HCE.out) (by simp))).trans HCE.out
          have hsz := HG5.out.size
          clear hcell hw5 hgd
          go_wp2_with (at_builtin; refine wpList_app elB rfl (.tmp 43) (.tmp 47) rfl rfl HO5.out ⟨bb, boff, none⟩ sn sc (b0.map bval) rfl (by rw [List.length_map, ← HBN.out, Nat.mul_one]) HB5.out.news (bval_one b0) (by unfold maxLen; omega) (by omega) hsz (by omega) ?_; intro g cap w1 hown1 hgr)
          go_roundw
          case rel =>
            have hib : i < bs.length := by have := HK.out; omega
            refine ⟨i + 1, r + sn, _, _, by omega, Lib.hid (by rw [Nat.succ_mul, HRi.out]), by go_num, rfl, Lib.hid ?_, Lib.hid (mem_take_succ hib HM.out (by rw [← HB0.out]; exact HBN.out.symm)), Lib.hid (hgr.grew.grown HO5.out HG5.out (Nat.le_refl _))⟩
            rw [List.take_succ_eq_append_getElem hib, List.flatten_append, ← HB0.out]
            unfold BOwn
            rw [List.map_append]
            simpa using hown1
          case measure => simp [intOf]; omega
        · have hne : ((sn : Int) != (q : Int)) = true := by rw [bne_iff_ne]; omega
          have hbd := HBAD.out (fun h => he (by rw [HBN.out, HB0.out]; exact h _ (List.getElem_mem _)))
          go_wp2_with fail
          go_quiet ((go_at_call 54; exact quietU (HU2.out _)))
          have HGD := Lib.hid (grownBy_trans HG.out (grownBy_drewN wr nq none))
          have HBD := Lib.hid hbd
          clear hbd hcell
          go_wp2_with fail
          refine bodyPost_ret (by simp [*, results, Try.results26, go_sem]; try rfl) rfl ?_
          rw [HBD.out.1, HBD.out.2]
          exact ⟨⟨none, 0, 0, rfl, BLies.nil _ _, rfl, by omega⟩, HGD.out⟩
      · obtain rfl : i = K := by omega
        have hr : r = N := by rw [HRi.out, HN.out]
        have hall : bs.take i = bs := List.take_of_length_le (by have := HK.out; omega)
        have ho := HO.out
        have hm := HM.out
        rw [hall] at ho hm
        obtain ⟨hE, hR⟩ := HOK.out hm
        have hzr : z ≤ r := by have := HKQ.out; omega
        have hcap := (Own.cap ho).1
        obtain ⟨g, hga, _, _⟩ := Own.block ho (by omega)
        subst hga
        have hlen : bs.flatten.length = r := BOwn.len ho
        have HO2 : Hid (BLies wr (some ⟨g, 0, none⟩) (bs.flatten.take z)) := Lib.hid ((BOwn.lies ho).take z)
        have HE := Lib.hid hE
        have HR := Lib.hid hR
        have hlz : (bs.flatten.take z).length = z := by rw [List.length_take, hlen]; omega
        have HLZ := Lib.hid hlz
        have hzc : z ≤ c' := by omega
        clear ho hm hall hr hE hR hlz hlen
        go_wp2_with fail
        refine bodyPost_ret (by simp [*, results, Try.results26, go_sem]; try rfl) rfl ?_
        rw [HE.out, HR.out]
        exact ⟨⟨_, z, _, rfl, HO2.out, HLZ.out, by omega⟩, HG.out⟩

end Go.Proofs.Ytfboddnpkaiifaa
/- Bytes laid behind bytes: append(out, s...) whatever their numbers; CopyBytes. -/
namespace Go.Proofs.Ytfboddnpkaiifaa
open Go.RowKit

theorem run_app_zero (w : World) (a : Option Addr) (n c : Nat) (hc : n ≤ c) (sa : Option Addr) (sc : Nat) (ty : TypeId) :
    (Builtin.append_ #[22, 22] ty #[.slice a n c, .slice sa 0 sc]).run Try.prog w = .ok (.slice a n c) w := by
  obtain ⟨i, hi, hz, hs, hb⟩ := elB.info
  cases a <;> cases sa <;> simp [Builtin.append_, run_underlying Try.underlying22, sizeOf, typeInfo, hi, hs, Builtin.lenOf, Builtin.firstCells, loadCells, loadCellsFrom, hc]
  all_goals simp [storeCells, Result.andThen]

theorem bcells {w : World} {g o : Nat} {s : List UInt8} (hs : BLies w (some ⟨g, o, none⟩) s) : ∀ j u, (s.map bval)[j]? = some u → w.cell? ((⟨g, o, none⟩ : Addr).add j) = some u := by
  intro j u hj
  have hjl : j < s.length := by
    rcases Nat.lt_or_ge j s.length with h | h
    · exact h
    · rw [List.getElem?_eq_none (by simpa using h)] at hj; cases hj
  rw [List.getElem?_map, List.getElem?_eq_getElem hjl] at hj
  injection hj with hj
  obtain ⟨b, off, e, hc⟩ := hs j hjl
  injection e with e; injection e with e1 e2
  subst e1; subst e2
  have ha : (⟨g, o, none⟩ : Addr).add j = ⟨g, o + j, none⟩ := by unfold Addr.add; split <;> simp_all
  rw [ha, hc, ← hj]
  rfl
/-- append(out, s...) of bytes -/
theorem run_appB (w : World) {base : Nat} {a : Option Addr} {n c : Nat} {l : List UInt8} (hown : BOwn w base a n c l) (sa : Option Addr) (m sc : Nat) (s : List UInt8) (hs : BLies w sa s) (hm : s.length = m) (hb : n + m ≤ 4000000100) (hbase : base ≤ w.heap.size) (ty : TypeId) :
    ∃ a' c' w1, (Builtin.append_ #[22, 22] ty #[.slice a n c, .slice sa m sc]).run Try.prog w = .ok (.slice a' (n + m) c') w1 ∧ BOwn w1 base a' (n + m) c' (l ++ s) ∧ Ch (In a c) w w1 ∧ (∀ g, In a' c' g → In a c g ∨ w.heap.size ≤ g) := by
  rcases Nat.eq_zero_or_pos m with h0 | h0
  · subst h0
    obtain rfl : s = [] := List.eq_nil_of_length_eq_zero hm
    exact ⟨a, c, w, run_app_zero w a n c hown.cap.1 sa sc ty, by simpa using hown, Ch.refl _ _, fun g h => .inl h⟩
  · obtain ⟨gb, ob, rfl⟩ := BLies.addr hs (by omega)
    obtain ⟨g, c', w1, hrun, ho, hgr⟩ := run_app (P := Try.prog) (ty := ty) w elB hown ⟨gb, ob, none⟩ m sc (s.map bval) (by simp [hm]) (bcells hs) (fun u hu => by
      obtain ⟨y, _, rfl⟩ := List.mem_map.1 hu
      rfl) (by unfold maxLen; omega) (by omega) hbase (fun _ _ _ => trivial) h0
    refine ⟨_, c', w1, hrun, ?_, GrewP.ch hgr, ?_⟩
    · have : BOwn w1 base (some ⟨g, 0, none⟩) (n + m) c' (l ++ s) := by
        show Own _ _ _ _ _ _ _ _
        rw [List.map_append]
        exact ho
      exact this
    · rintro g2 ⟨hc, e⟩
      injection e with e; injection e with e
      subst e
      rcases hgr with ⟨g1, e1, e2, h3, h4, _⟩ | ⟨g1, e1, h2, _⟩
      · exact .inl ⟨h3, e2⟩
      · injection e1 with e1; injection e1 with e1
        subst e1
        exact .inr h2
end Go.Proofs.Ytfboddnpkaiifaa
/- A result that lies in a cell. -/
namespace Go.Proofs.Ytfboddnpkaiifaa
open Go.RowKit

theorem results_cell1 {fn : Func} {p : Tmp} (h : fn.results = #[.cell p 4]) (tmps : Array Value) (w : World) (g : Nat) (v : Value) (hp : tmps.getD p undef = .pointer (some ⟨g, 0, none⟩)) (hr : Row w g 4 #[v]) :
    (results fn tmps).run Try.prog w = .ok v w := by
  have hp' : tmps[p]?.getD undef = .pointer (some ⟨g, 0, none⟩) := by simpa using hp
  have hc := Row.cell hr 0
  simp at hc
  simp [results, h, hp', asAddr, loadVar, isAgg, run_underlying Try.underlying4, hc]
end Go.Proofs.Ytfboddnpkaiifaa
/- Shapes and parameters that came in. -/
namespace Go.Proofs.Ytfboddnpkaiifaa
open Go.ChangeShapes Go.WideShapes Go.ChangeAt Go.RowKit

section
variable {H : Type} {enc : TypeId × Value → H} {w : World} {base : Nat} {spare : Nat → Bool} {held : Bool}
theorem okWide_struct {P : Program} {r : Reach} {b0 : Nat} {t : TypeId} {fs : Array Field} {v : Value} (ht : P.underlying t = some (.struct fs)) (h : Value.okWide P w r b0 t v) : ∃ cs, v = .agg cs ∧ cs.size = P.cellsOf t := by
  simp only [Value.okWide, ht] at h
  obtain ⟨cs, h1, h2, _⟩ := h
  exact ⟨cs, h1, h2⟩
theorem i64ok_of_wf {n : Int} (h : (Lit.int .i64 n).wf = true) : i64ok n := i64_of_wf h

theorem field_int {P : Program} {t : TypeId} {fs : Array Field} {fuel : Nat} {cs : List Value} {x : DataW H × List MemPlace} (ht : P.underlying t = some (.struct fs)) (h : DataW.trod enc P w base spare held fuel t cs = some x)
    (i : Nat) (f : Field) (hf : fs[i]? = some f) (hi : P.underlying f.type = some (.int .i64)) (hc : P.cellsOf f.type = 1) (ho : f.offset < cs.length) : ∃ n : Int, cs[f.offset]? = some (.int .i64 n) ∧ i64ok n := by
  obtain ⟨xs, m, _, _, _, hl, hx⟩ := DataW.trod_struct ht h
  have h1 := hx i f hf
  have hil : i < xs.length := by have := (Array.getElem?_eq_some_iff.1 hf).1; omega
  rw [hc, List.drop_eq_getElem_cons ho, List.getElem?_eq_getElem hil] at h1
  have h2 : DataW.trod enc P w base spare held m f.type [cs[f.offset]] = some xs[i] := h1
  obtain ⟨a, ea, _, wa⟩ := DataW.trod_int hi h2
  injection ea with ea
  exact ⟨a, by rw [List.getElem?_eq_getElem ho, ea], i64ok_of_wf wa⟩

theorem open_sh {r : Reach} {b0 : Nat} {v : Value} {d : DataW H} {p : List MemPlace}
    (hv : Value.okWide Try.prog w r b0 47 v) (h : DataW.Trod enc Try.prog w base spare held 47 v d p) : ∃ s : Sh, s.Wf ∧ v = s.val := by
  obtain ⟨cs, rfl, hs⟩ := okWide_struct Try.underlying47 hv
  have hs8 : cs.size = 8 := hs
  obtain ⟨fuel, hf⟩ := h
  have hf : DataW.trod enc Try.prog w base spare held fuel 47 cs.toList = some (d, p) := hf
  have hl : cs.toList.length = 8 := by simpa using hs8
  have F := fun i f h1 h2 h3 h4 => field_int Try.underlying47 hf i f h1 h2 h3 h4
  obtain ⟨k, e0, w0⟩ := F 0 _ rfl Try.underlying3 (by kernel_rfl) (by rw [hl]; decide)
  obtain ⟨n, e1, w1⟩ := F 1 _ rfl Try.underlying3 (by kernel_rfl) (by rw [hl]; decide)
  obtain ⟨g, e2, w2⟩ := F 2 _ rfl Try.underlying3 (by kernel_rfl) (by rw [hl]; decide)
  obtain ⟨z, e3, w3⟩ := F 3 _ rfl Try.underlying3 (by kernel_rfl) (by rw [hl]; decide)
  obtain ⟨sg, e4, w4⟩ := F 4 _ rfl Try.underlying3 (by kernel_rfl) (by rw [hl]; decide)
  obtain ⟨t, e5, w5⟩ := F 5 _ rfl Try.underlying3 (by kernel_rfl) (by rw [hl]; decide)
  obtain ⟨b, e6, w6⟩ := F 6 _ rfl Try.underlying3 (by kernel_rfl) (by rw [hl]; decide)
  obtain ⟨l, e7, w7⟩ := F 7 _ rfl Try.underlying3 (by kernel_rfl) (by rw [hl]; decide)
  refine ⟨⟨k, n, g, z, sg, t, b, l⟩, ⟨w0, w1, w2, w3, w4, w5, w6, w7⟩, ?_⟩
  obtain ⟨cs⟩ := cs
  match cs, hl with
  | [v0, v1, v2, v3, v4, v5, v6, v7], _ =>
    simp only [List.getElem?_cons_zero, List.getElem?_cons_succ] at e0 e1 e2 e3 e4 e5 e6 e7
    injection e0 with e0; injection e1 with e1; injection e2 with e2; injection e3 with e3; injection e4 with e4; injection e5 with e5; injection e6 with e6; injection e7 with e7
    subst e0 e1 e2 e3 e4 e5 e6 e7
    rfl

theorem bulk_mem {H : Type} {l : List (DataW H)} {d : DataW H} (h : d ∈ l) : Rows.uptoBulk d ≤ Rows.uptoBulkAll l := by
  induction l with
  | nil => cases h
  | cons x r ih =>
    simp only [Rows.uptoBulkAll]
    rcases List.mem_cons.1 h with rfl | h
    · omega
    · have := ih h; omega

theorem open_pr {r : Reach} {b0 : Nat} {v : Value} {d : DataW H} {p : List MemPlace}
    (hv : Value.okWide Try.prog w r b0 45 v) (h : DataW.Trod enc Try.prog w base spare held 45 v d p) :
    ∃ (k n g hp : Int) (a : Option Addr) (ln c : Nat) (l : List UInt8), v = prV k n g hp a ln c ∧ i64ok k ∧ i64ok n ∧ i64ok g ∧ i64ok hp ∧ l.length = ln ∧ BLies w a l ∧ ln + 1 ≤ Rows.uptoBulk d ∧ ln ≤ c ∧ c ≤ maxLen := by
  obtain ⟨cs, rfl, hs⟩ := okWide_struct Try.underlying45 hv
  have hs5 : cs.size = 5 := hs
  obtain ⟨fuel, hf⟩ := h
  have hf : DataW.trod enc Try.prog w base spare held fuel 45 cs.toList = some (d, p) := hf
  have hl : cs.toList.length = 5 := by simpa using hs5
  have F := fun i f h1 h2 h3 h4 => field_int Try.underlying45 hf i f h1 h2 h3 h4
  obtain ⟨k, e0, w0⟩ := F 0 _ rfl Try.underlying3 (by kernel_rfl) (by rw [hl]; decide)
  obtain ⟨n, e1, w1⟩ := F 1 _ rfl Try.underlying3 (by kernel_rfl) (by rw [hl]; decide)
  obtain ⟨g, e2, w2⟩ := F 2 _ rfl Try.underlying3 (by kernel_rfl) (by rw [hl]; decide)
  obtain ⟨hp, e3, w3⟩ := F 3 _ rfl Try.underlying3 (by kernel_rfl) (by rw [hl]; decide)
  obtain ⟨xs, m, _, hx, _, hxl, hi⟩ := DataW.trod_struct Try.underlying45 hf
  have h4 := hi 4 _ rfl
  have hxl5 : xs.length = 5 := hxl
  obtain ⟨cs⟩ := cs
  match cs, hl with
  | [v0, v1, v2, v3, v4], _ =>
    simp only [List.getElem?_cons_zero, List.getElem?_cons_succ] at e0 e1 e2 e3
    injection e0 with e0; injection e1 with e1; injection e2 with e2; injection e3 with e3
    subst e0 e1 e2 e3
    match xs, hxl5 with
    | [y0, y1, y2, y3, y4], _ =>
      have h5 : DataW.trod enc Try.prog w base spare held m 22 [v4] = some (y4.1, y4.2) := h4
      have hb : Rows.uptoBulk y4.1 ≤ Rows.uptoBulk d := by
        injection hx with hx _
        rw [hx]
        simp only [Rows.uptoBulk]
        have := bulk_mem (l := [y0, y1, y2, y3, y4].map (·.1)) (d := y4.1) (by simp)
        omega
      have hsl : ∃ a ln c, v4 = .slice a ln c := by
        rcases open_ints Try.underlying22 Try.underlying5 (by kernel_rfl) h5 with ⟨hcs, _⟩ | ⟨x, len', cap', zs, hcs, _⟩
        · injection hcs with hcs; exact ⟨_, _, _, hcs⟩
        · injection hcs with hcs; exact ⟨_, _, _, hcs⟩
      obtain ⟨a, ln, c, rfl⟩ := hsl
      obtain ⟨l, r1, r2, r3, r4, r5⟩ := rd_bytes h5
      exact ⟨k, n, g, hp, a, ln, c, l, rfl, w0, w1, w2, w3, r1, r2, by omega, r4, r5⟩
end

end Go.Proofs.Ytfboddnpkaiifaa
