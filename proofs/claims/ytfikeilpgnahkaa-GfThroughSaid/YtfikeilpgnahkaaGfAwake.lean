/- gf: the laws' awake. -/
import Derived.Test.YtfikeilpgnahkaaGfThrough
import Derived.Test.YtfikeilpgnahkaaGfPow
import Derived.Test.YtfikeilpgnahkaaSame
namespace Go.Proofs.Ytfikeilpgnahkaa
open Go.RowKit Go.Shelf

theorem tv1 : timesV [1, 1] [1, 1] = [1, 0, 1] := by decide +kernel
theorem te1 : timesE [1, 1] [1, 1] = 0 := by decide +kernel
theorem thv1 : throughV [(0, 5), (1, 7)] = [5, 2] := by decide +kernel
theorem the1 : throughE [(0, 5), (1, 7)] = 0 := by decide +kernel
theorem gi2 : ginv 2 = 142 := by decide +kernel
theorem gm2 : gm 2 128 = 29 := by decide +kernel
theorem gx8 : gexp (expI 8) = 29 := by decide +kernel
theorem ev1 : evL [1, 2, 3] 2 = 9 := by decide +kernel
theorem ne2 : noughtE 2 = 0 := rfl
/-- bytes of a fresh block -/
theorem lies_new (w : World) (t : TypeId) (l : List UInt8) (cs : Array Value) (h : cs = rowB l) : ∃ W, W = w.alloc (.cells cs t) ∧ W.heap.size = w.heap.size + 1 ∧ w.grownBy W none ∧ BLies W (some ⟨w.heap.size, 0, none⟩) l := by
  subst h
  exact ⟨_, rfl, by simp, World.grownBy_alloc _ _ none, BRow.lies (t := t) (heap_alloc_new w _)⟩
theorem row11 : #[Value.int .u8 1, Value.int .u8 1] = rowB [1, 1] := rfl
theorem row101 : #[Value.int .u8 1, Value.int .u8 0, Value.int .u8 1] = rowB [1, 0, 1] := rfl
theorem row52 : #[Value.int .u8 5, Value.int .u8 2] = rowB [5, 2] := rfl
theorem row123 : #[Value.int .u8 1, Value.int .u8 2, Value.int .u8 3] = rowB [1, 2, 3] := rfl
theorem pts_new (w : World) (t : TypeId) : ∃ W, W = w.alloc (.cells #[.int .u8 0, .int .u8 5, .int .u8 1, .int .u8 7] t) ∧ W.heap.size = w.heap.size + 1 ∧ w.grownBy W none ∧ PLies W (some ⟨w.heap.size, 0, none⟩) [(0, 5), (1, 7)] := by
  refine ⟨_, rfl, by simp, World.grownBy_alloc _ _ none, ?_⟩
  have hr : Row (w.alloc (.cells #[.int .u8 0, .int .u8 5, .int .u8 1, .int .u8 7] t)) w.heap.size t #[.int .u8 0, .int .u8 5, .int .u8 1, .int .u8 7] := heap_alloc_new w _
  intro k hk
  refine ⟨_, 0, rfl, ?_⟩
  intro j v hj
  match k, j, hk, hj with
  | 0, 0, _, hj => rw [Row.cell hr]; simpa [bval] using hj
  | 0, 1, _, hj => rw [Row.cell hr]; simpa [bval] using hj
  | 1, 0, _, hj => rw [Row.cell hr]; simpa [bval] using hj
  | 1, 1, _, hj => rw [Row.cell hr]; simpa [bval] using hj
  | 0, j + 2, _, hj => simp at hj
  | 1, j + 2, _, hj => simp at hj
  | k + 2, _, hk, _ => simp at hk; omega

set_option maxRecDepth 100000 in
set_option maxHeartbeats 2000000 in
theorem awake_n (w : World) : Calls Try.prog 49 #[] w fun e w' => e = .returned (.bool true) ∧ w.grownBy w' none := by
  have c1 : ∀ (W : World) (a b : Option Addr) (ha : BLies W a [1, 1]) (hb : BLies W b [1, 1]), Calls Try.prog 43 #[.slice a 2 2, .slice b 2 2] W fun e w' => ∃ a' n' c', e = .returned (.tuple #[.slice a' n' c', .int .i64 0]) ∧ BOwn w' W.heap.size a' n' c' [1, 0, 1] ∧ W.grownBy w' none := fun W a b ha hb => by
    have h := timesT_n a b 2 2 2 2 [1, 1] [1, 1] W ha hb rfl rfl (by omega) (by omega) (by omega) (by omega)
    rw [tv1, te1] at h
    exact h
  have c2 : ∀ (W : World) (a : Option Addr) (ha : PLies W a [(0, 5), (1, 7)]), Calls Try.prog 47 #[.slice a 2 2] W fun e w' => ∃ a' n' c', e = .returned (.tuple #[.slice a' n' c', .int .i64 0]) ∧ BOwn w' W.heap.size a' n' c' [5, 2] ∧ W.grownBy w' none := fun W a ha => by
    have h := through_n a 2 2 [(0, 5), (1, 7)] W ha rfl (by omega)
    rw [thv1, the1] at h
    exact h
  have c3 : ∀ W : World, Calls Try.prog 21 #[.int .u8 2] W fun e w' => e = .returned (.tuple #[.int .u8 142, .int .i64 0]) ∧ W = w' := fun W => by
    have h := inv_i 2 2 W rfl
    rw [gi2, ne2] at h
    exact h
  have c4 : ∀ W : World, Calls Try.prog 19 #[.int .u8 2, .int .u8 128] W fun e w' => e = .returned (.int .u8 29) ∧ W = w' := fun W => by
    have h := mul_i 2 128 2 128 W rfl rfl
    rw [gm2] at h
    exact h
  have c5 : ∀ W : World, Calls Try.prog 41 #[.int .i64 8] W fun e w' => e = .returned (.int .u8 29) ∧ W.grownBy w' none := fun W => by
    have h := exp_any 8 W (by omega)
    rw [gx8] at h
    exact h
  have c6 : ∀ (W : World) (a : Option Addr) (ha : BLies W a [1, 2, 3]), Calls Try.prog 29 #[.slice a 3 3, .int .u8 2] W fun e w' => e = .returned (.int .u8 9) ∧ ∃ q, w' = W.drewN q := fun W a ha => by
    have h := eval_n a 3 3 [1, 2, 3] 2 W ha rfl (by decide)
    rw [ev1] at h
    exact h
  have C1 := Lib.hid c1
  have C2 := Lib.hid c2
  have C3 := Lib.hid c3
  have C4 := Lib.hid c4
  have C5 := Lib.hid c5
  have C6 := Lib.hid c6
  clear c1 c2 c3 c4 c5 c6
  go_enter Try.func49, Try.ntmps49
  go_wp2_with fail
  obtain ⟨V1, e1, z1, g1, l1⟩ := lies_new w 5 [1, 1] _ row11
  rw [← e1]
  obtain ⟨V2, e2, z2, g2, l2⟩ := lies_new V1 5 [1, 1] _ row11
  rw [← z1, ← e2]
  have hc := C1.out V2 (some ⟨w.heap.size, 0, none⟩) (some ⟨V1.heap.size, 0, none⟩) (l1.grown g2) l2
  have G0 := Lib.hid (grownBy_trans g1 g2)
  clear e1 z1 l1 e2 z2 l2 g1 g2 C1
  refine hc.mono ?_
  rintro e W1 ⟨aP, nP, cP, rfl, oP, g1⟩
  have G1 := Lib.hid (grownBy_trans G0.out g1)
  have hnP : nP = 3 := oP.len.symm
  subst hnP
  have OP := Lib.hid oP
  clear hc G0 g1 oP
  go_wp2_with fail
  obtain ⟨V3, e3, z3, g3, l3⟩ := pts_new W1 54
  rw [← e3]
  have hc := C2.out V3 (some ⟨W1.heap.size, 0, none⟩) l3
  have G2 := Lib.hid (grownBy_trans G1.out g3)
  have OP2 := Lib.hid (Own.ch OP.out (Ch.ofNone g3 (fun _ => False)) (fun _ _ _ h => h))
  clear e3 z3 l3 g3 C2 OP G1
  refine hc.mono ?_
  rintro e W2 ⟨aT, nT, cT, rfl, oT, g4⟩
  have G3 := Lib.hid (grownBy_trans G2.out g4)
  have hnT : nT = 2 := oT.len.symm
  subst hnT
  have OT := Lib.hid oT
  have OP3 := Lib.hid (Own.ch OP2.out (Ch.ofNone g4 (fun _ => False)) (fun _ _ _ h => h))
  clear hc G2 OP2 g4 oT
  go_wp2_with (first | (go_at_call 21; refine (C3.out _).mono ?_; rintro e w' ⟨rfl, rfl⟩) | (go_at_call 19; refine (C4.out _).mono ?_; rintro e w' ⟨rfl, rfl⟩))
  refine (C5.out _).mono ?_
  rintro e W4 ⟨rfl, g5⟩
  have G4 := Lib.hid (grownBy_trans G3.out g5)
  have OT4 := Lib.hid (Own.ch OT.out (Ch.ofNone g5 (fun _ => False)) (fun _ _ _ h => h))
  have OP4 := Lib.hid (Own.ch OP3.out (Ch.ofNone g5 (fun _ => False)) (fun _ _ _ h => h))
  clear g5 G3 OT OP3
  go_wp2_with fail
  obtain ⟨V5, e5, z5, g5, l5⟩ := lies_new W4 5 [1, 0, 1] _ row101
  rw [← e5]
  have hc := same_yes aP (some ⟨W4.heap.size, 0, none⟩) cP 3 3 3 [1, 0, 1] V5 ((BOwn.lies OP4.out).grown g5) l5 rfl rfl (by decide)
  have G5 := Lib.hid (grownBy_trans G4.out g5)
  have OT5 := Lib.hid (Own.ch OT4.out (Ch.ofNone g5 (fun _ => False)) (fun _ _ _ h => h))
  clear e5 z5 g5 l5 G4 OT4 OP4
  refine hc.mono ?_
  rintro e w6 ⟨rfl, q6, hw6⟩
  have g6 : V5.grownBy w6 none := hw6 ▸ grownBy_drewN _ _ _
  have G6 := Lib.hid (grownBy_trans G5.out g6)
  have OT6 := Lib.hid (Own.ch OT5.out (Ch.ofNone g6 (fun _ => False)) (fun _ _ _ h => h))
  clear hc hw6 g6 G5 OT5
  go_wp2_with fail
  obtain ⟨V7, e7, z7, g7, l7⟩ := lies_new w6 5 [5, 2] _ row52
  rw [← e7]
  have hc := same_yes aT (some ⟨w6.heap.size, 0, none⟩) cT 2 2 2 [5, 2] V7 ((BOwn.lies OT6.out).grown g7) l7 rfl rfl (by decide)
  have G7 := Lib.hid (grownBy_trans G6.out g7)
  clear e7 z7 g7 l7 G6 OT6
  refine hc.mono ?_
  rintro e w8 ⟨rfl, q8, hw8⟩
  have g8 : V7.grownBy w8 none := hw8 ▸ grownBy_drewN _ _ _
  have G8 := Lib.hid (grownBy_trans G7.out g8)
  clear hc hw8 g8 G7
  go_wp2_with fail
  obtain ⟨V9, e9, z9, g9, l9⟩ := lies_new w8 5 [1, 2, 3] _ row123
  rw [← e9]
  have hc := C6.out V9 (some ⟨w8.heap.size, 0, none⟩) l9
  have G9 := Lib.hid (grownBy_trans G8.out g9)
  clear e9 z9 g9 l9 G8
  refine hc.mono ?_
  rintro e w10 ⟨rfl, q10, hw10⟩
  have g10 : V9.grownBy w10 none := hw10 ▸ grownBy_drewN _ _ _
  have G10 := Lib.hid (grownBy_trans G9.out g10)
  clear hc hw10 g10 G9
  go_wp2_with fail
  go_ret
  exact ⟨rfl, G10.out⟩

end Go.Proofs.Ytfikeilpgnahkaa
