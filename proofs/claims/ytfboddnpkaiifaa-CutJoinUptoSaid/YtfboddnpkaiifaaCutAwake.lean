/- The laws' awake: a shape that the document fixes, and a segment's blocks. -/
import Derived.Test.YtfboddnpkaiifaaCutJoin
import Derived.Test.YtfboddnpkaiifaaCutFitsW
import Derived.Test.YtfboddnpkaiifaaCutShapeT
import Derived.Test.YtfboddnpkaiifaaRow
namespace Go.Proofs.Ytfboddnpkaiifaa
open Go.RowKit

theorem params_info : ∃ i, Try.prog.info? 45 = some i ∧ i.zero = some (.agg #[.int .i64 0, .int .i64 0, .int .i64 0, .int .i64 0, .slice none 0 0]) ∧ i.size = 5 ∧ i.bytes = i.bytes := by
  refine ⟨(Try.prog.info? 45).getD default, by kernel_rfl, by kernel_rfl, by kernel_rfl, rfl⟩
theorem shape_info : ∃ i, Try.prog.info? 47 = some i ∧ i.zero = some noSh.val ∧ i.size = 8 := by
  refine ⟨(Try.prog.info? 47).getD default, by kernel_rfl, by kernel_rfl, by kernel_rfl⟩
theorem blies_new (w : World) (l : List UInt8) (t : TypeId) : BLies (w.alloc (.cells (l.map bval).toArray t)) (some ⟨w.heap.size, 0, none⟩) l := by
  intro k hk
  refine ⟨w.heap.size, 0, rfl, ?_⟩
  have hh := heap_alloc_new w (.cells (l.map bval).toArray t)
  simp only [World.cell?, hh]
  simp [hk, bval]

set_option maxRecDepth 100000 in
set_option maxHeartbeats 1000000 in
theorem sample_n (w : World) : Calls Try.prog 45 #[] w fun e w' => e = .returned (prV 3 5 10 0 none 0 0) ∧ w.grownBy w' none := by
  have HN := Lib.hid (heap_alloc_new w (.cells #[.int .i64 0, .int .i64 0, .int .i64 0, .int .i64 0, .slice none 0 0] 45))
  have hr := setRow_heap _ w.heap.size _ #[.int .i64 3, .int .i64 5, .int .i64 10, .int .i64 0, .slice none 0 0] 45 _ HN.out
  have HR := Lib.hid hr
  have hg := grownBy_old (World.grownBy_alloc w (.cells #[.int .i64 0, .int .i64 0, .int .i64 0, .int .i64 0, .slice none 0 0] 45) none) (grownBy_setRow _ w.heap.size #[.int .i64 3, .int .i64 5, .int .i64 10, .int .i64 0, .slice none 0 0]) (Nat.le_refl _)
  have HG := Lib.hid hg
  clear hr hg
  go_enter Try.func45, Try.ntmps45
  go_wp2_with (first | (refine wpList_store_row rfl 45 _ _ rfl w.heap.size #[.int .i64 3, .int .i64 5, .int .i64 10, .int .i64 0, .slice none 0 0] rfl rfl 45 _ HN.out (by kernel_rfl) rfl (by simp [Value.oneCell']) ?_))
  refine bodyPost_ret (results_cell_row rfl _ _ w.heap.size 45 _ (0, 0) _ rfl HR.out Try.underlying45 rfl (by kernel_rfl)) rfl ?_
  exact ⟨rfl, HG.out⟩

theorem eq_same {s : Sh} (hs : s.Wf) (w : World) :
    (binOp .eql 47 s.val s.val).run Try.prog w = .ok (.bool true) w ∧ (binOp .neq 47 s.val s.val).run Try.prog w = .ok (.bool false) w := by
  have h := eq_sh hs hs w
  simpa using h

theorem aw_shape (w : World) : Calls Try.prog 29 #[prV 3 5 10 0 none 0 0, .int .i64 100] w fun e w' => e = .returned (.tuple #[.agg #[.int .i64 3, .int .i64 5, .int .i64 12, .int .i64 100, .int .i64 9, .int .i64 4, .int .i64 4, .int .i64 2], .int .i64 0]) ∧ w.grownBy w' none := by
  have h := shape_t 3 5 10 0 100 none 0 0 w
  have e1 : shS 3 5 10 0 100 = ⟨3, 5, 12, 100, 9, 4, 4, 2⟩ := by decide
  have e2 : shE 3 5 10 0 100 = 0 := by decide
  rw [e1, e2] at h
  exact h

theorem aw_blocks (g : Nat) (w : World) (h : BLies w (some ⟨g, 0, none⟩) [1, 2, 3, 4]) :
    Calls Try.prog 15 #[.slice (some ⟨g, 0, none⟩) 4 4, .int .i64 3] w fun e w' => (∃ a' c', e = .returned (.tuple #[.slice a' 3 c', .int .i64 0]) ∧ LOwn w' w.heap.size a' 3 c' [[1, 2], [3, 4], [0, 0]]) ∧ w.grownBy w' none :=
  blocks_ok (some ⟨g, 0, none⟩) 4 4 3 21846 2 [1, 2, 3, 4] w h rfl (by decide) (bk_num (k := 3) (n := 4) (by decide) (by decide) (by decide) (by decide)) (by decide) (by decide)

theorem aw_join (a : Option Addr) (c : Nat) (L : List Sl) (w : World) (hL : LLies w a L [[1, 2], [3, 4], [0, 0]]) :
    Calls Try.prog 23 #[.slice a 3 c, .int .i64 4] w fun e w' => (∃ a' c', e = .returned (.tuple #[.slice a' 4 c', .int .i64 0]) ∧ BOwn w' w.heap.size a' 4 c' [1, 2, 3, 4]) ∧ w.grownBy w' none := by
  refine (join_ok a c 3 4 21846 2 L [[1, 2], [3, 4], [0, 0]] w hL rfl (bk_num (k := 3) (n := 4) (by decide) (by decide) (by decide) (by decide)) (by decide) (by decide)).mono ?_
  rintro e w' ⟨⟨_, h⟩ | ⟨h, _⟩, hg⟩
  · exact ⟨h, hg⟩
  · exact absurd (by decide) h

theorem bv1234 : ([1, 2, 3, 4] : List UInt8).map bval = [.int .u8 1, .int .u8 2, .int .u8 3, .int .u8 4] := rfl
theorem bv34 : ([3, 4] : List UInt8).map bval = [.int .u8 3, .int .u8 4] := rfl
theorem bv00 : ([0, 0] : List UInt8).map bval = [.int .u8 0, .int .u8 0] := rfl
theorem bl1234 (w : World) : BLies (w.alloc (.cells #[.int .u8 1, .int .u8 2, .int .u8 3, .int .u8 4] 5)) (some ⟨w.heap.size, 0, none⟩) [1, 2, 3, 4] := by
  have h := blies_new w [1, 2, 3, 4] 5
  rw [bv1234] at h
  exact h
theorem bl34 (w : World) : BLies (w.alloc (.cells #[.int .u8 3, .int .u8 4] 5)) (some ⟨w.heap.size, 0, none⟩) [3, 4] := by
  have h := blies_new w [3, 4] 5
  rw [bv34] at h
  exact h
theorem bl00 (w : World) : BLies (w.alloc (.cells #[.int .u8 0, .int .u8 0] 5)) (some ⟨w.heap.size, 0, none⟩) [0, 0] := by
  have h := blies_new w [0, 0] 5
  rw [bv00] at h
  exact h

set_option maxRecDepth 100000 in
set_option maxHeartbeats 4000000 in
theorem awake_n (w : World) : Calls Try.prog 21 #[] w fun e w' => e = .returned (.bool true) ∧ w.grownBy w' none := by
  have hgu := eq_guard_sh
  have hq : ∀ w, (binOp .neq 47 (.agg #[.int .i64 3, .int .i64 5, .int .i64 12, .int .i64 100, .int .i64 9, .int .i64 4, .int .i64 4, .int .i64 2]) (.agg #[.int .i64 3, .int .i64 5, .int .i64 12, .int .i64 100, .int .i64 9, .int .i64 4, .int .i64 4, .int .i64 2])).run Try.prog w = .ok (.bool false) w := fun w => (eq_same (s := ⟨3, 5, 12, 100, 9, 4, 4, 2⟩) (by constructor <;> exact ⟨by decide, by decide⟩) w).2
  obtain ⟨i, hi, hz, hs⟩ := shape_info
  have HI := Lib.hid hi
  have HZ := Lib.hid hz
  have HS := Lib.hid hs
  clear hi hz hs
  go_enter Try.func21, Try.ntmps21
  go_wp2_with fail
  refine (sample_n _).mono ?_
  rintro e w1 ⟨rfl, hg1⟩
  unfold prV
  have HG1 := Lib.hid hg1
  clear hg1
  go_wp2_with fail
  refine (aw_shape _).mono ?_
  rintro e w2 ⟨rfl, hg2⟩
  have HG2 := Lib.hid (grownBy_trans HG1.out hg2)
  clear hg2
  go_wp2_with (first | (refine wpList_fresh rfl rfl rfl rfl rfl HI.out HZ.out (by rw [HS.out]; rfl) #[.int .i64 3, .int .i64 5, .int .i64 12, .int .i64 100, .int .i64 9, .int .i64 4, .int .i64 4, .int .i64 2] rfl rfl rfl (by simp [Value.oneCell']) ?_; intro w3 hs3 hg3 hr3; clear hs3; have HG3 := Lib.hid (grownBy_trans HG2.out hg3); have HR3 := Lib.hid hr3; clear hg3 hr3) | (refine wpList_load_rowW (by rfl) 47 _ rfl w2.heap.size rfl 47 #[.int .i64 3, .int .i64 5, .int .i64 12, .int .i64 100, .int .i64 9, .int .i64 4, .int .i64 4, .int .i64 2] (0, 0) _ HR3.out Try.underlying47 rfl size_shape ?_))
  refine (aw_blocks _ _ (bl1234 w3)).mono ?_
  rintro e w4 ⟨⟨a4, c4, rfl, hl4⟩, hg4⟩
  have HG4 := Lib.hid (grownBy_trans (grownBy_al HG3.out _) hg4)
  obtain ⟨L, hLL, hSO, hBO⟩ := hl4.lies
  have hcap := Own.cap hSO
  obtain ⟨g4, ha4, _, _⟩ := Own.block hSO (by omega)
  subst ha4
  have hL3 : L.length = 3 := hSO.len
  match L, hL3 with
  | [⟨sa, sn, sc⟩, ⟨ta, tn, tc⟩, ⟨ua, un, uc⟩], _ =>
    have HLL := Lib.hid hLL
    obtain ⟨hlies, _, hb⟩ := hLL
    have b1 := hb 1 (by simp) (by simp)
    have b2 := hb 2 (by simp) (by simp)
    obtain ⟨b1l, b1n⟩ := b1
    obtain ⟨b2l, b2n⟩ := b2
    simp only [List.getElem_cons_succ, List.getElem_cons_zero, List.length_cons, List.length_nil, Nat.zero_add, Nat.reduceAdd] at b1l b1n b2l b2n
    obtain ⟨_, _, q1, c1⟩ := hlies 1 (by simp)
    injection q1 with q1; injection q1 with q1 q1'
    subst q1; subst q1'
    obtain ⟨_, _, q2, c2⟩ := hlies 2 (by simp)
    injection q2 with q2; injection q2 with q2 q2'
    subst q2; subst q2'
    subst b1n b2n
    simp only [Nat.zero_add, List.map_cons, List.getElem_cons_succ, List.getElem_cons_zero, Sl.val] at c1 c2
    have HB1 := Lib.hid b1l
    have HB2 := Lib.hid b2l
    clear b1l b2l hlies hb hBO hl4 hg4
    go_wp2_with fail
    refine (same_yes _ _ _ _ 2 2 [3, 4] _ (HB1.out.grown (World.grownBy_alloc w4 _ none)) (bl34 w4) rfl rfl (by decide)).mono ?_
    rintro e w5 ⟨rfl, q5, hq5⟩
    have hg5 : w4.grownBy w5 none := by rw [hq5]; exact grownBy_dr (World.grownBy_alloc w4 _ none) q5
    have HG5 := Lib.hid hg5
    have c2' : w5.cell? ⟨g4, 2, none⟩ = some (.slice ua 2 uc) := hg5.cell c2 (by simp)
    clear hg5 hq5
    go_wp2_with fail
    refine (same_yes _ _ _ _ 2 2 [0, 0] _ ((HB2.out.grown HG5.out).grown (World.grownBy_alloc w5 _ none)) (bl00 w5) rfl rfl (by decide)).mono ?_
    rintro e w6 ⟨rfl, q6, hq6⟩
    have hg6 : w4.grownBy w6 none := by rw [hq6]; exact grownBy_dr (grownBy_al HG5.out _) q6
    have HG6 := Lib.hid hg6
    clear hg6 hq6
    go_wp2_with fail
    refine (aw_join _ _ _ _ (HLL.out.grown HG6.out)).mono ?_
    rintro e w7 ⟨⟨a7, c7, rfl, hb7⟩, hg7⟩
    have HG7 := Lib.hid (grownBy_trans (grownBy_trans HG4.out HG6.out) hg7)
    have HB7 := Lib.hid hb7.lies
    clear hg7 hb7
    go_wp2_with fail
    refine (same_yes _ _ _ _ 4 4 [1, 2, 3, 4] _ (HB7.out.grown (World.grownBy_alloc w7 _ none)) (bl1234 w7) rfl rfl (by decide)).mono ?_
    rintro e w8 ⟨rfl, q8, hq8⟩
    have hg8 : w.grownBy w8 none := by rw [hq8]; exact grownBy_dr (grownBy_al HG7.out _) q8
    have HG8 := Lib.hid hg8
    clear hg8 hq8
    go_wp2_with fail
    refine bodyPost_ret (by simp [*, results, Try.results21, go_sem]; try rfl) rfl ?_
    exact ⟨rfl, HG8.out⟩

end Go.Proofs.Ytfboddnpkaiifaa
