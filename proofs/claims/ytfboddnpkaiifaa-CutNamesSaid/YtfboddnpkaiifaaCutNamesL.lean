/- The law CutNames. -/
import Derived.Test.YtfboddnpkaiifaaCutAwake
import Derived.Test.YtfboddnpkaiifaaCutBlocksN
import Derived.Test.YtfboddnpkaiifaaCutCoverW
namespace Go.Proofs.Ytfboddnpkaiifaa
open Go.RowKit

theorem s100_wf : (⟨3, 5, 12, 100, 9, 4, 4, 2⟩ : Sh).Wf := by constructor <;> exact ⟨by decide, by decide⟩
theorem nm_36 (w : World) : Calls Try.prog 29 #[prV 3 5 10 0 none 0 0, .int .i64 36] w fun e w' => e = .returned (.tuple #[.agg #[.int .i64 3, .int .i64 5, .int .i64 12, .int .i64 36, .int .i64 3, .int .i64 12, .int .i64 4, .int .i64 4], .int .i64 0]) ∧ w.grownBy w' none := by
  have h := shape_t 3 5 10 0 36 none 0 0 w
  have e1 : shS 3 5 10 0 36 = ⟨3, 5, 12, 36, 3, 12, 4, 4⟩ := by decide
  have e2 : shE 3 5 10 0 36 = 0 := by decide
  rw [e1, e2] at h
  exact h
theorem nm_32 (w : World) : Calls Try.prog 29 #[prV 3 5 10 0 none 0 0, .int .i64 32] w fun e w' => e = .returned (.tuple #[.agg #[.int .i64 0, .int .i64 0, .int .i64 0, .int .i64 0, .int .i64 0, .int .i64 0, .int .i64 0, .int .i64 0], .int .i64 4]) ∧ w.grownBy w' none := by
  have h := shape_t 3 5 10 0 32 none 0 0 w
  have e1 : shS 3 5 10 0 32 = ⟨0, 0, 0, 0, 0, 0, 0, 0⟩ := by decide
  have e2 : shE 3 5 10 0 32 = 4 := by decide
  rw [e1, e2] at h
  exact h
theorem nm_6145 (w : World) : Calls Try.prog 29 #[prV 3 5 10 0 none 0 0, .int .i64 6145] w fun e w' => e = .returned (.tuple #[.agg #[.int .i64 0, .int .i64 0, .int .i64 0, .int .i64 0, .int .i64 0, .int .i64 0, .int .i64 0, .int .i64 0], .int .i64 3]) ∧ w.grownBy w' none := by
  have h := shape_t 3 5 10 0 6145 none 0 0 w
  have e1 : shS 3 5 10 0 6145 = ⟨0, 0, 0, 0, 0, 0, 0, 0⟩ := by decide
  have e2 : shE 3 5 10 0 6145 = 3 := by decide
  rw [e1, e2] at h
  exact h
theorem nm_6144 (w : World) : Calls Try.prog 29 #[prV 3 5 10 0 none 0 0, .int .i64 6144] w fun e w' => e = .returned (.tuple #[.agg #[.int .i64 3, .int .i64 5, .int .i64 12, .int .i64 6144, .int .i64 512, .int .i64 12, .int .i64 4, .int .i64 4], .int .i64 0]) ∧ w.grownBy w' none := by
  have h := shape_t 3 5 10 0 6144 none 0 0 w
  have e1 : shS 3 5 10 0 6144 = ⟨3, 5, 12, 6144, 512, 12, 4, 4⟩ := by decide
  have e2 : shE 3 5 10 0 6144 = 0 := by decide
  rw [e1, e2] at h
  exact h
theorem nm_a1 (w : World) : Calls Try.prog 34 #[.int .i64 3, .int .i64 5, .int .i64 65538, .int .i64 100] w fun e w' => e = .returned (.tuple #[.agg #[.int .i64 3, .int .i64 5, .int .i64 65538, .int .i64 100, .int .i64 1, .int .i64 100, .int .i64 21846, .int .i64 34], .int .i64 0]) ∧ w.grownBy w' none := by
  have h := again_n 3 5 65538 100 (by decide) w
  have e1 : agS 3 5 65538 100 = ⟨3, 5, 65538, 100, 1, 100, 21846, 34⟩ := by decide
  have e2 : agE 3 5 65538 100 = 0 := by decide
  rw [e1, e2] at h
  exact h
theorem nm_a2 (w : World) : Calls Try.prog 34 #[.int .i64 3, .int .i64 5, .int .i64 13, .int .i64 100] w fun e w' => e = .returned (.tuple #[.agg #[.int .i64 0, .int .i64 0, .int .i64 0, .int .i64 0, .int .i64 0, .int .i64 0, .int .i64 0, .int .i64 0], .int .i64 92]) ∧ w.grownBy w' none := by
  have h := again_n 3 5 13 100 (by decide) w
  have e1 : agS 3 5 13 100 = ⟨0, 0, 0, 0, 0, 0, 0, 0⟩ := by decide
  have e2 : agE 3 5 13 100 = 92 := by decide
  rw [e1, e2] at h
  exact h
theorem nm_a3 (w : World) : Calls Try.prog 34 #[.int .i64 3, .int .i64 5, .int .i64 65541, .int .i64 100] w fun e w' => e = .returned (.tuple #[.agg #[.int .i64 0, .int .i64 0, .int .i64 0, .int .i64 0, .int .i64 0, .int .i64 0, .int .i64 0, .int .i64 0], .int .i64 92]) ∧ w.grownBy w' none := by
  have h := again_n 3 5 65541 100 (by decide) w
  have e1 : agS 3 5 65541 100 = ⟨0, 0, 0, 0, 0, 0, 0, 0⟩ := by decide
  have e2 : agE 3 5 65541 100 = 92 := by decide
  rw [e1, e2] at h
  exact h
theorem nm_s8 (w : World) : Calls Try.prog 40 #[.agg #[.int .i64 3, .int .i64 5, .int .i64 12, .int .i64 100, .int .i64 9, .int .i64 4, .int .i64 4, .int .i64 2], .int .i64 8] w fun e w' => e = .returned (.tuple #[.int .i64 4, .int .i64 0]) ∧ w.grownBy w' none := by
  have h := segsize_n ⟨3, 5, 12, 100, 9, 4, 4, 2⟩ s100_wf 8 w
  have e1 : szV ⟨3, 5, 12, 100, 9, 4, 4, 2⟩ 8 12 4 = 4 := by decide
  have e2 : szE ⟨3, 5, 12, 100, 9, 4, 4, 2⟩ 8 = 0 := by decide
  simp only at h
  rw [e1, e2] at h
  exact h
theorem nm_b8 (w : World) : Calls Try.prog 41 #[.agg #[.int .i64 3, .int .i64 5, .int .i64 12, .int .i64 100, .int .i64 9, .int .i64 4, .int .i64 4, .int .i64 2], .int .i64 8] w fun e w' => e = .returned (.tuple #[.int .i64 2, .int .i64 0]) ∧ w.grownBy w' none := by
  have h := blocksize_n ⟨3, 5, 12, 100, 9, 4, 4, 2⟩ s100_wf 8 w
  have e1 : szV ⟨3, 5, 12, 100, 9, 4, 4, 2⟩ 8 4 2 = 2 := by decide
  have e2 : szE ⟨3, 5, 12, 100, 9, 4, 4, 2⟩ 8 = 0 := by decide
  simp only at h
  rw [e1, e2] at h
  exact h
theorem nm_s9 (w : World) : Calls Try.prog 40 #[.agg #[.int .i64 3, .int .i64 5, .int .i64 12, .int .i64 100, .int .i64 9, .int .i64 4, .int .i64 4, .int .i64 2], .int .i64 9] w fun e w' => e = .returned (.tuple #[.int .i64 0, .int .i64 90]) ∧ w.grownBy w' none := by
  have h := segsize_n ⟨3, 5, 12, 100, 9, 4, 4, 2⟩ s100_wf 9 w
  have e1 : szV ⟨3, 5, 12, 100, 9, 4, 4, 2⟩ 9 12 4 = 0 := by decide
  have e2 : szE ⟨3, 5, 12, 100, 9, 4, 4, 2⟩ 9 = 90 := by decide
  simp only at h
  rw [e1, e2] at h
  exact h
theorem nm_c1 (w : World) : Calls Try.prog 39 #[.agg #[.int .i64 3, .int .i64 5, .int .i64 12, .int .i64 100, .int .i64 9, .int .i64 4, .int .i64 4, .int .i64 2], .int .i64 11, .int .i64 2] w fun e w' => e = .returned (.tuple #[.int .i64 0, .int .i64 1, .int .i64 0]) ∧ w.grownBy w' none := by
  have h := cover_n ⟨3, 5, 12, 100, 9, 4, 4, 2⟩ s100_wf 11 2 ⟨by decide, by decide⟩ ⟨by decide, by decide⟩ w
  have e1 : cvA ⟨3, 5, 12, 100, 9, 4, 4, 2⟩ 11 2 = 0 := by decide
  have e2 : cvB ⟨3, 5, 12, 100, 9, 4, 4, 2⟩ 11 2 = 1 := by decide
  have e3 : cvE ⟨3, 5, 12, 100, 9, 4, 4, 2⟩ 11 2 = 0 := by decide
  rw [e1, e2, e3] at h
  exact h
theorem nm_c2 (w : World) : Calls Try.prog 39 #[.agg #[.int .i64 3, .int .i64 5, .int .i64 12, .int .i64 100, .int .i64 9, .int .i64 4, .int .i64 4, .int .i64 2], .int .i64 99, .int .i64 2] w fun e w' => e = .returned (.tuple #[.int .i64 0, .int .i64 0, .int .i64 90]) ∧ w.grownBy w' none := by
  have h := cover_n ⟨3, 5, 12, 100, 9, 4, 4, 2⟩ s100_wf 99 2 ⟨by decide, by decide⟩ ⟨by decide, by decide⟩ w
  have e1 : cvA ⟨3, 5, 12, 100, 9, 4, 4, 2⟩ 99 2 = 0 := by decide
  have e2 : cvB ⟨3, 5, 12, 100, 9, 4, 4, 2⟩ 99 2 = 0 := by decide
  have e3 : cvE ⟨3, 5, 12, 100, 9, 4, 4, 2⟩ 99 2 = 90 := by decide
  rw [e1, e2, e3] at h
  exact h
theorem nm_bl1 (g : Nat) (w : World) (h : BLies w (some ⟨g, 0, none⟩) [1]) :
    Calls Try.prog 15 #[.slice (some ⟨g, 0, none⟩) 1 1, .int .i64 3] w fun e w' => (∃ a' c', e = .returned (.tuple #[.slice a' 3 c', .int .i64 0]) ∧ LOwn w' w.heap.size a' 3 c' [[1], [0], [0]]) ∧ w.grownBy w' none :=
  blocks_ok (some ⟨g, 0, none⟩) 1 1 3 21846 1 [1] w h rfl (by decide) (bk_num (k := 3) (n := 1) (by decide) (by decide) (by decide) (by decide)) (by decide) (by decide)
theorem nm_bl0 (w : World) :
    Calls Try.prog 15 #[.slice none 0 0, .int .i64 3] w fun e w' => (∃ a' m c', e = .returned (.tuple #[.slice a' m c', .int .i64 91])) ∧ w.grownBy w' none :=
  (blocks_n none 0 0 3 [] w (BLies.nil _ _) rfl (by decide)).mono fun e w' ⟨⟨a', m, c', h, _⟩, hg⟩ => ⟨⟨a', m, c', h⟩, hg⟩
theorem bv12 : ([1, 2] : List UInt8).map bval = [.int .u8 1, .int .u8 2] := rfl
theorem bv12340 : ([1, 2, 3, 4, 0] : List UInt8).map bval = [.int .u8 1, .int .u8 2, .int .u8 3, .int .u8 4, .int .u8 0] := rfl
theorem bl12 (w : World) : BLies (w.alloc (.cells #[.int .u8 1, .int .u8 2] 5)) (some ⟨w.heap.size, 0, none⟩) [1, 2] := by
  have h := blies_new w [1, 2] 5
  rw [bv12] at h
  exact h
theorem bl1 (w : World) : BLies (w.alloc (.cells #[.int .u8 1] 5)) (some ⟨w.heap.size, 0, none⟩) [1] := blies_new w [1] 5
theorem bl0 (w : World) : BLies (w.alloc (.cells #[.int .u8 0] 5)) (some ⟨w.heap.size, 0, none⟩) [0] := blies_new w [0] 5
theorem bl12340 (w : World) : BLies (w.alloc (.cells #[.int .u8 1, .int .u8 2, .int .u8 3, .int .u8 4, .int .u8 0] 5)) (some ⟨w.heap.size, 0, none⟩) [1, 2, 3, 4, 0] := by
  have h := blies_new w [1, 2, 3, 4, 0] 5
  rw [bv12340] at h
  exact h

/-- the literal of three lists -/
def litw (w : World) : World := ((((w.alloc (.cells #[.int .u8 1, .int .u8 2] 5)).alloc (.cells #[.int .u8 3, .int .u8 4] 5)).alloc (.cells #[.int .u8 0, .int .u8 0] 5)).alloc (.cells #[.slice (some ⟨w.heap.size, 0, none⟩) 2 2, .slice (some ⟨w.heap.size + 1, 0, none⟩) 2 2, .slice (some ⟨w.heap.size + 1 + 1, 0, none⟩) 2 2] 22))
theorem litw_grown (w : World) : w.grownBy (litw w) none := grownBy_al (grownBy_al (grownBy_al (World.grownBy_alloc w _ none) _) _) _
theorem litw_lies (w : World) : LLies (litw w) (some ⟨w.heap.size + 1 + 1 + 1, 0, none⟩) [⟨some ⟨w.heap.size, 0, none⟩, 2, 2⟩, ⟨some ⟨w.heap.size + 1, 0, none⟩, 2, 2⟩, ⟨some ⟨w.heap.size + 1 + 1, 0, none⟩, 2, 2⟩] [[1, 2], [3, 4], [0, 0]] := by
  obtain ⟨v1, hv1⟩ : ∃ v, v = w.alloc (.cells #[.int .u8 1, .int .u8 2] 5) := ⟨_, rfl⟩
  obtain ⟨v2, hv2⟩ : ∃ v, v = v1.alloc (.cells #[.int .u8 3, .int .u8 4] 5) := ⟨_, rfl⟩
  obtain ⟨v3, hv3⟩ : ∃ v, v = v2.alloc (.cells #[.int .u8 0, .int .u8 0] 5) := ⟨_, rfl⟩
  obtain ⟨v4, hv4⟩ : ∃ v, v = v3.alloc (.cells #[.slice (some ⟨w.heap.size, 0, none⟩) 2 2, .slice (some ⟨w.heap.size + 1, 0, none⟩) 2 2, .slice (some ⟨w.heap.size + 1 + 1, 0, none⟩) 2 2] 22) := ⟨_, rfl⟩
  have e : litw w = v4 := by rw [hv4, hv3, hv2, hv1]; rfl
  have s1 : v1.heap.size = w.heap.size + 1 := by rw [hv1]; simp
  have s2 : v2.heap.size = w.heap.size + 1 + 1 := by rw [hv2]; simp [s1]
  have s3 : v3.heap.size = w.heap.size + 1 + 1 + 1 := by rw [hv3]; simp [s2]
  have g12 : v1.grownBy v2 none := by rw [hv2]; exact World.grownBy_alloc _ _ _
  have g23 : v2.grownBy v3 none := by rw [hv3]; exact World.grownBy_alloc _ _ _
  have g34 : v3.grownBy v4 none := by rw [hv4]; exact World.grownBy_alloc _ _ _
  have b1 : BLies v1 (some ⟨w.heap.size, 0, none⟩) [1, 2] := by rw [hv1]; exact bl12 w
  have b2 : BLies v2 (some ⟨w.heap.size + 1, 0, none⟩) [3, 4] := by rw [hv2, ← s1]; exact bl34 v1
  have b3 : BLies v3 (some ⟨w.heap.size + 1 + 1, 0, none⟩) [0, 0] := by rw [hv3, ← s2]; exact bl00 v2
  rw [e]
  refine ⟨?_, rfl, ?_⟩
  · intro k hk
    have hh := heap_alloc_new v3 (.cells #[.slice (some ⟨w.heap.size, 0, none⟩) 2 2, .slice (some ⟨w.heap.size + 1, 0, none⟩) 2 2, .slice (some ⟨w.heap.size + 1 + 1, 0, none⟩) 2 2] 22)
    rw [← hv4] at hh
    refine ⟨v3.heap.size, 0, by rw [s3], ?_⟩
    simp only [World.cell?, hh]
    simp only [List.map_cons, List.map_nil, Sl.val, List.length_cons, List.length_nil] at hk ⊢
    match k, hk with
    | 0, _ => rfl
    | 1, _ => rfl
    | 2, _ => rfl
  · intro i h h'
    match i, h with
    | 0, _ => exact ⟨((b1.grown g12).grown g23).grown g34, rfl⟩
    | 1, _ => exact ⟨(b2.grown g23).grown g34, rfl⟩
    | 2, _ => exact ⟨b3.grown g34, rfl⟩
theorem nm_j5 (w : World) :
    Calls Try.prog 23 #[.slice (some ⟨w.heap.size + 1 + 1 + 1, 0, none⟩) 3 3, .int .i64 5] (litw w) fun e w' => (∃ a' c', e = .returned (.tuple #[.slice a' 5 c', .int .i64 0]) ∧ BOwn w' (litw w).heap.size a' 5 c' [1, 2, 3, 4, 0]) ∧ (litw w).grownBy w' none := by
  refine (join_ok _ 3 3 5 21846 2 _ [[1, 2], [3, 4], [0, 0]] (litw w) (litw_lies w) rfl (bk_num (k := 3) (n := 5) (by decide) (by decide) (by decide) (by decide)) (by decide) (by decide)).mono ?_
  rintro e w' ⟨⟨_, h⟩ | ⟨h, _⟩, hg⟩
  · exact ⟨h, hg⟩
  · exact absurd (by decide) h
theorem nm_j7 (w : World) :
    Calls Try.prog 23 #[.slice (some ⟨w.heap.size + 1 + 1 + 1, 0, none⟩) 3 3, .int .i64 7] (litw w) fun e w' => e = .returned (.tuple #[.slice none 0 0, .int .i64 91]) ∧ (litw w).grownBy w' none := by
  refine (join_ok _ 3 3 7 21846 3 _ [[1, 2], [3, 4], [0, 0]] (litw w) (litw_lies w) rfl (bk_num (k := 3) (n := 7) (by decide) (by decide) (by decide) (by decide)) (by decide) (by decide)).mono ?_
  rintro e w' ⟨⟨h, _⟩ | ⟨_, h⟩, hg⟩
  · exact absurd h (by decide)
  · exact ⟨h, hg⟩

set_option maxRecDepth 100000 in
set_option maxHeartbeats 8000000 in
theorem names_walk (w : World) : Calls Try.prog 10 #[] w fun e w' => e = .returned (.bool true) ∧ w.grownBy w' none := by
  have hgu := eq_guard_sh
  have hq : ∀ w, (binOp .neq 47 (.agg #[.int .i64 3, .int .i64 5, .int .i64 65538, .int .i64 100, .int .i64 1, .int .i64 100, .int .i64 21846, .int .i64 34]) (.agg #[.int .i64 3, .int .i64 5, .int .i64 65538, .int .i64 100, .int .i64 1, .int .i64 100, .int .i64 21846, .int .i64 34])).run Try.prog w = .ok (.bool false) w := fun w => (eq_same (s := ⟨3, 5, 65538, 100, 1, 100, 21846, 34⟩) (by constructor <;> exact ⟨by decide, by decide⟩) w).2
  obtain ⟨i, hi, hz, hs⟩ := shape_info
  have HI := Lib.hid hi
  have HZ := Lib.hid hz
  have HS := Lib.hid hs
  clear hi hz hs
  have HG0 := Lib.hid (World.grownBy.refl w none)
  go_enter Try.func10, Try.ntmps10
  go_wp2_with fail
  refine (awake_n _).mono ?_
  rintro e w1 ⟨rfl, hg⟩
  have HG1 := Lib.hid (grownBy_trans HG0.out hg)
  clear hg
  go_wp2_with fail
  refine (sample_n _).mono ?_
  rintro e w2 ⟨rfl, hg⟩
  have HG2 := Lib.hid (grownBy_trans HG1.out hg)
  clear hg
  unfold prV
  go_wp2_with fail
  refine (nm_36 _).mono ?_
  rintro e w3 ⟨rfl, hg⟩
  have HG3 := Lib.hid (grownBy_trans HG2.out hg)
  clear hg
  go_wp2_with (first | (refine wpList_fresh rfl rfl rfl rfl rfl HI.out HZ.out (by rw [HS.out]; rfl) #[.int .i64 3, .int .i64 5, .int .i64 12, .int .i64 36, .int .i64 3, .int .i64 12, .int .i64 4, .int .i64 4] rfl rfl rfl (by simp [Value.oneCell']) ?_; intro w4 hs4 hg4 hr4; clear hs4; have HG4 := Lib.hid (grownBy_trans HG3.out hg4); have HA4 := Lib.hid hr4; clear hg4 hr4))
  refine (sample_n _).mono ?_
  rintro e w5 ⟨rfl, hg⟩
  have HG5 := Lib.hid (grownBy_trans HG4.out hg)
  have HA5 := Lib.hid (HA4.out.grown hg)
  clear hg
  unfold prV
  go_wp2_with fail
  refine (nm_32 _).mono ?_
  rintro e w6 ⟨rfl, hg⟩
  have HG6 := Lib.hid (grownBy_trans HG5.out hg)
  have HA6 := Lib.hid (HA5.out.grown hg)
  clear hg
  go_wp2_with (first | (refine wpList_fresh rfl rfl rfl rfl rfl HI.out HZ.out (by rw [HS.out]; rfl) #[.int .i64 0, .int .i64 0, .int .i64 0, .int .i64 0, .int .i64 0, .int .i64 0, .int .i64 0, .int .i64 0] rfl rfl rfl (by simp [Value.oneCell']) ?_; intro w7 hs7 hg7 hr7; clear hs7; have HG7 := Lib.hid (grownBy_trans HG6.out hg7); have HA7 := Lib.hid (HA6.out.grown hg7); clear hg7 hr7))
  refine (sample_n _).mono ?_
  rintro e w8 ⟨rfl, hg⟩
  have HG8 := Lib.hid (grownBy_trans HG7.out hg)
  have HA8 := Lib.hid (HA7.out.grown hg)
  clear hg
  unfold prV
  go_wp2_with fail
  refine (nm_6145 _).mono ?_
  rintro e w9 ⟨rfl, hg⟩
  have HG9 := Lib.hid (grownBy_trans HG8.out hg)
  have HA9 := Lib.hid (HA8.out.grown hg)
  clear hg
  go_wp2_with (first | (refine wpList_fresh rfl rfl rfl rfl rfl HI.out HZ.out (by rw [HS.out]; rfl) #[.int .i64 0, .int .i64 0, .int .i64 0, .int .i64 0, .int .i64 0, .int .i64 0, .int .i64 0, .int .i64 0] rfl rfl rfl (by simp [Value.oneCell']) ?_; intro w10 hs10 hg10 hr10; clear hs10; have HG10 := Lib.hid (grownBy_trans HG9.out hg10); have HA10 := Lib.hid (HA9.out.grown hg10); clear hg10 hr10))
  refine (sample_n _).mono ?_
  rintro e w11 ⟨rfl, hg⟩
  have HG11 := Lib.hid (grownBy_trans HG10.out hg)
  have HA11 := Lib.hid (HA10.out.grown hg)
  clear hg
  unfold prV
  go_wp2_with fail
  refine (nm_6144 _).mono ?_
  rintro e w12 ⟨rfl, hg⟩
  have HG12 := Lib.hid (grownBy_trans HG11.out hg)
  have HA12 := Lib.hid (HA11.out.grown hg)
  clear hg
  go_wp2_with (first | (refine wpList_fresh rfl rfl rfl rfl rfl HI.out HZ.out (by rw [HS.out]; rfl) #[.int .i64 3, .int .i64 5, .int .i64 12, .int .i64 6144, .int .i64 512, .int .i64 12, .int .i64 4, .int .i64 4] rfl rfl rfl (by simp [Value.oneCell']) ?_; intro w13 hs13 hg13 hr13; clear hs13; have HG13 := Lib.hid (grownBy_trans HG12.out hg13); have ha13 := HA12.out.grown hg13; have HA13 := Lib.hid ha13; have s4 := ha13.cell 4; have s5 := ha13.cell 5; have s7 := ha13.cell 7; have t4 := hr13.cell 4; simp at s4 s5 s7 t4; clear ha13; clear hg13 hr13))
  refine (nm_a1 _).mono ?_
  rintro e w14 ⟨rfl, hg⟩
  have HG14 := Lib.hid (grownBy_trans HG13.out hg)
  have HA14 := Lib.hid (HA13.out.grown hg)
  clear hg
  clear s4 s5 s7 t4
  go_wp2_with (first | (refine wpList_putrow rfl rfl w3.heap.size rfl #[.int .i64 3, .int .i64 5, .int .i64 65538, .int .i64 100, .int .i64 1, .int .i64 100, .int .i64 21846, .int .i64 34] rfl HA14.out size_shape rfl (by simp [Value.oneCell']) ?_; intro w15 hg15 hr15; have HG15 := Lib.hid (grownBy_old HG14.out hg15 HG3.out.size); have HA15 := Lib.hid hr15; clear hg15 hr15))
  refine (nm_a2 _).mono ?_
  rintro e w16 ⟨rfl, hg⟩
  have HG16 := Lib.hid (grownBy_trans HG15.out hg)
  have HA16 := Lib.hid (HA15.out.grown hg)
  clear hg
  go_wp2_with fail
  refine (nm_a3 _).mono ?_
  rintro e w17 ⟨rfl, hg⟩
  have HG17 := Lib.hid (grownBy_trans HG16.out hg)
  have HA17 := Lib.hid (HA16.out.grown hg)
  clear hg
  go_wp2_with (first | (refine wpList_load_rowW (by rfl) 47 _ rfl (w3.heap.size) rfl 47 #[.int .i64 3, .int .i64 5, .int .i64 65538, .int .i64 100, .int .i64 1, .int .i64 100, .int .i64 21846, .int .i64 34] (0, 0) _ HA17.out Try.underlying47 rfl size_shape ?_))
  refine (sample_n _).mono ?_
  rintro e w18 ⟨rfl, hg⟩
  have HG18 := Lib.hid (grownBy_trans HG17.out hg)
  have HA18 := Lib.hid (HA17.out.grown hg)
  clear hg
  unfold prV
  go_wp2_with fail
  refine (aw_shape _).mono ?_
  rintro e w19 ⟨rfl, hg⟩
  have HG19 := Lib.hid (grownBy_trans HG18.out hg)
  have HA19 := Lib.hid (HA18.out.grown hg)
  clear hg
  go_wp2_with (first | (refine wpList_putrow rfl rfl w3.heap.size rfl #[.int .i64 3, .int .i64 5, .int .i64 12, .int .i64 100, .int .i64 9, .int .i64 4, .int .i64 4, .int .i64 2] rfl HA19.out size_shape rfl (by simp [Value.oneCell']) ?_; intro w20 hg20 hr20; have HG20 := Lib.hid (grownBy_old HG19.out hg20 HG3.out.size); have HA20 := Lib.hid hr20; clear hg20 hr20) | (refine wpList_load_rowW (by rfl) 47 _ rfl (w3.heap.size) rfl 47 #[.int .i64 3, .int .i64 5, .int .i64 12, .int .i64 100, .int .i64 9, .int .i64 4, .int .i64 4, .int .i64 2] (0, 0) _ HA20.out Try.underlying47 rfl size_shape ?_))
  refine (nm_s8 _).mono ?_
  rintro e w21 ⟨rfl, hg⟩
  have HG21 := Lib.hid (grownBy_trans HG20.out hg)
  have HA21 := Lib.hid (HA20.out.grown hg)
  clear hg
  go_wp2_with (first | (refine wpList_load_rowW (by rfl) 47 _ rfl (w3.heap.size) rfl 47 #[.int .i64 3, .int .i64 5, .int .i64 12, .int .i64 100, .int .i64 9, .int .i64 4, .int .i64 4, .int .i64 2] (0, 0) _ HA21.out Try.underlying47 rfl size_shape ?_))
  refine (nm_b8 _).mono ?_
  rintro e w22 ⟨rfl, hg⟩
  have HG22 := Lib.hid (grownBy_trans HG21.out hg)
  have HA22 := Lib.hid (HA21.out.grown hg)
  clear hg
  go_wp2_with (first | (refine wpList_load_rowW (by rfl) 47 _ rfl (w3.heap.size) rfl 47 #[.int .i64 3, .int .i64 5, .int .i64 12, .int .i64 100, .int .i64 9, .int .i64 4, .int .i64 4, .int .i64 2] (0, 0) _ HA22.out Try.underlying47 rfl size_shape ?_))
  refine (nm_s9 _).mono ?_
  rintro e w23 ⟨rfl, hg⟩
  have HG23 := Lib.hid (grownBy_trans HG22.out hg)
  have HA23 := Lib.hid (HA22.out.grown hg)
  clear hg
  go_wp2_with fail
  refine (nm_bl1 _ _ (bl1 w23)).mono ?_
  rintro e w24 ⟨⟨a24, c24, rfl, hl24⟩, hg⟩
  have HG24 := Lib.hid (grownBy_trans (grownBy_al HG23.out _) hg)
  have HA24 := Lib.hid ((HA23.out.grown (World.grownBy_alloc w23 _ none)).grown hg)
  have HL24 := Lib.hid hl24
  clear hg hl24
  go_wp2_with fail
  refine (nm_bl0 _).mono ?_
  rintro e w25 ⟨⟨a25, m25, c25, rfl⟩, hg⟩
  have HG25 := Lib.hid (grownBy_trans HG24.out hg)
  have HA25 := Lib.hid (HA24.out.grown hg)
  have hl25 := HL24.out.grown hg
  clear hg
  obtain ⟨L, hLL, hSO, hBO⟩ := hl25.lies
  have hcap := Own.cap hSO
  obtain ⟨g4, ha4, _, _⟩ := Own.block hSO (by omega)
  subst ha4
  have hL3 : L.length = 3 := hSO.len
  match L, hL3 with
  | [⟨sa, sn, sc⟩, ⟨ta, tn, tc⟩, ⟨ua, un, uc⟩], _ =>
    obtain ⟨hlies, _, hb⟩ := hLL
    have b1 := hb 0 (by simp) (by simp)
    have b2 := hb 2 (by simp) (by simp)
    obtain ⟨b1l, b1n⟩ := b1
    obtain ⟨b2l, b2n⟩ := b2
    simp only [List.getElem_cons_succ, List.getElem_cons_zero, List.length_cons, List.length_nil, Nat.zero_add, Nat.reduceAdd] at b1l b1n b2l b2n
    obtain ⟨_, _, q1, c1⟩ := hlies 0 (by simp)
    injection q1 with q1; injection q1 with q1 q1'
    subst q1; subst q1'
    obtain ⟨_, _, q2, c2⟩ := hlies 2 (by simp)
    injection q2 with q2; injection q2 with q2 q2'
    subst q2; subst q2'
    subst b1n b2n
    simp only [Nat.zero_add, List.map_cons, List.getElem_cons_succ, List.getElem_cons_zero, Sl.val] at c1 c2
    have HB1 := Lib.hid b1l
    have HB2 := Lib.hid b2l
    clear b1l b2l hlies hb hBO hl25
    go_wp2_with fail
    refine (same_yes _ _ _ _ 1 1 [1] _ (HB1.out.grown (World.grownBy_alloc w25 _ none)) (bl1 w25) rfl rfl (by decide)).mono ?_
    rintro e w26 ⟨rfl, q5, hq5⟩
    have hg5 : w25.grownBy w26 none := by rw [hq5]; exact grownBy_dr (World.grownBy_alloc w25 _ none) q5
    have HG26 := Lib.hid (grownBy_trans HG25.out hg5)
    have HA26 := Lib.hid (HA25.out.grown hg5)
    have HB26 := Lib.hid (HB2.out.grown hg5)
    have c2' : w26.cell? ⟨g4, 2, none⟩ = some (.slice ua 1 uc) := hg5.cell c2 (by simp)
    clear hg5 hq5
    go_wp2_with fail
    refine (same_yes _ _ _ _ 1 1 [0] _ (HB26.out.grown (World.grownBy_alloc w26 _ none)) (bl0 w26) rfl rfl (by decide)).mono ?_
    rintro e w27 ⟨rfl, q6, hq6⟩
    have hg6 : w26.grownBy w27 none := by rw [hq6]; exact grownBy_dr (World.grownBy_alloc w26 _ none) q6
    have HG27 := Lib.hid (grownBy_trans HG26.out hg6)
    have HA27 := Lib.hid (HA26.out.grown hg6)
    clear hg6 hq6 c2' c1 c2
    go_wp2_with fail
    have HJ5 := Lib.hid (nm_j5 w27)
    unfold litw at HJ5
    refine HJ5.out.mono ?_
    rintro e w28 ⟨⟨a28, c28, rfl, hb28⟩, hg⟩
    have hg2 := grownBy_trans (litw_grown w27) hg
    have HG28 := Lib.hid (grownBy_trans HG27.out hg2)
    have HA28 := Lib.hid (HA27.out.grown hg2)
    have HB28 := Lib.hid hb28.lies
    clear hg hg2 hb28
    go_wp2_with fail
    have HJ7 := Lib.hid (nm_j7 w28)
    unfold litw at HJ7
    refine HJ7.out.mono ?_
    rintro e w29 ⟨rfl, hg⟩
    have hg2 := grownBy_trans (litw_grown w28) hg
    have HG29 := Lib.hid (grownBy_trans HG28.out hg2)
    have HA29 := Lib.hid (HA28.out.grown hg2)
    have HB29 := Lib.hid (HB28.out.grown hg2)
    clear hg hg2
    go_wp2_with (first | (refine wpList_load_rowW (by rfl) 47 _ rfl (w3.heap.size) rfl 47 #[.int .i64 3, .int .i64 5, .int .i64 12, .int .i64 100, .int .i64 9, .int .i64 4, .int .i64 4, .int .i64 2] (0, 0) _ HA29.out Try.underlying47 rfl size_shape ?_))
    refine (nm_c1 _).mono ?_
    rintro e w30 ⟨rfl, hg⟩
    have HG30 := Lib.hid (grownBy_trans HG29.out hg)
    have HA30 := Lib.hid (HA29.out.grown hg)
    have HB30 := Lib.hid (HB29.out.grown hg)
    clear hg
    go_wp2_with (first | (refine wpList_load_rowW (by rfl) 47 _ rfl (w3.heap.size) rfl 47 #[.int .i64 3, .int .i64 5, .int .i64 12, .int .i64 100, .int .i64 9, .int .i64 4, .int .i64 4, .int .i64 2] (0, 0) _ HA30.out Try.underlying47 rfl size_shape ?_))
    refine (nm_c2 _).mono ?_
    rintro e w31 ⟨rfl, hg⟩
    have HG31 := Lib.hid (grownBy_trans HG30.out hg)
    have HB31 := Lib.hid (HB30.out.grown hg)
    clear hg
    go_wp2_with fail
    refine (same_yes _ _ _ _ 5 5 [1, 2, 3, 4, 0] _ (HB31.out.grown (World.grownBy_alloc w31 _ none)) (bl12340 w31) rfl rfl (by decide)).mono ?_
    rintro e w32 ⟨rfl, q7, hq7⟩
    have hg7 : w.grownBy w32 none := by rw [hq7]; exact grownBy_dr (grownBy_al HG31.out _) q7
    have HG32 := Lib.hid hg7
    clear hg7 hq7
    go_wp2_with fail
    refine bodyPost_ret (by simp [*, results, Try.results10, go_sem]; try rfl) rfl ?_
    exact ⟨rfl, HG32.out⟩

end Go.Proofs.Ytfboddnpkaiifaa
