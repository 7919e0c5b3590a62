/- The law GfNames: a closed statement. -/
import Derived.Test.YtfikeilpgnahkaaGfLawsL
import Derived.Test.YtfikeilpgnahkaaGfOver
namespace Go.Proofs.Ytfikeilpgnahkaa
open Go.RowKit Go.Shelf

theorem nm1 : gm 1 (ginv 3) = 244 := by decide +kernel
theorem nm2 : gm 0 (ginv 9) = 0 := by decide +kernel
theorem nm3 : noughtE 3 = 0 := rfl
theorem nm4 : noughtE 9 = 0 := rfl
theorem nm5 : ginv 0 = 0 := by decide +kernel
theorem nm6 : noughtE 0 = 60 := rfl
theorem nm7 : (5 : UInt8) ^^^ 3 = 6 := by decide +kernel
theorem nm8 : gm 7 7 = 21 := by decide +kernel
theorem nx0 : gexp (expI 0) = 1 := by decide +kernel
theorem nx1 : gexp (expI 255) = 1 := by decide +kernel
theorem nx2 : gexp (expI (-1)) = 142 := by decide +kernel
theorem nl1 : glog 29 = 8 := by decide +kernel
theorem nl2 : glog 1 = 0 := by decide +kernel
theorem nl3 : glog 0 = 0 := glog_zero
theorem nl4 : noughtE 29 = 0 := rfl
theorem nl5 : noughtE 1 = 0 := rfl
theorem np1 : powV 3 2 = 5 := by decide +kernel
theorem np2 : powV 0 0 = 1 := by decide +kernel
theorem np3 : powV 0 (-1) = 0 := by decide +kernel
theorem np4 : powV 2 (-1) = 142 := by decide +kernel
theorem ne1 : powE 3 2 = 0 := by decide +kernel
theorem ne20 : powE 0 0 = 0 := by decide +kernel
theorem ne3 : powE 0 (-1) = 60 := by decide +kernel
theorem ne4 : powE 2 (-1) = 0 := by decide +kernel
theorem nd1 : dotV [1, 2] [3, 4] = 11 := by decide +kernel
theorem nd2 : dotE 2 2 = 0 := rfl
theorem nd3 : dotV [1] [] = 0 := by decide +kernel
theorem nd4 : dotE 1 0 = 61 := rfl
theorem nd5 : dotV (List.replicate 257 0) (List.replicate 257 0) = 0 := by unfold dotV; rw [if_neg (by rw [List.length_replicate]; omega)]
theorem nd6 : dotE 257 257 = 61 := rfl
theorem ns1 : scL 2 [1, 2] = [2, 4] := by decide +kernel
theorem no1 : ovE [1, 0, 1] [1, 1, 0] = 0 := by decide +kernel
theorem no2 : ovQ [1, 0, 1] [1, 1, 0] = [1, 1] := by decide +kernel
theorem no3 : ovR [1, 0, 1] [1, 1, 0] = [] := by decide +kernel
theorem no4 : ovE [1] [0, 0] = 60 := by decide +kernel
theorem nt1 : throughE [(3, 1), (3, 1)] = 62 := by decide +kernel
theorem row_r12 : #[Value.int .u8 1, Value.int .u8 2] = rowB [1, 2] := rfl
theorem row_r34 : #[Value.int .u8 3, Value.int .u8 4] = rowB [3, 4] := rfl
theorem row_r1 : #[Value.int .u8 1] = rowB [1] := rfl
theorem row_r24 : #[Value.int .u8 2, Value.int .u8 4] = rowB [2, 4] := rfl
theorem row_r110 : #[Value.int .u8 1, Value.int .u8 1, Value.int .u8 0] = rowB [1, 1, 0] := rfl
theorem row_r00 : #[Value.int .u8 0, Value.int .u8 0] = rowB [0, 0] := rfl
theorem pts_new33 (w : World) (t : TypeId) : ∃ W, W = w.alloc (.cells #[.int .u8 3, .int .u8 1, .int .u8 3, .int .u8 1] t) ∧ W.heap.size = w.heap.size + 1 ∧ w.grownBy W none ∧ PLies W (some ⟨w.heap.size, 0, none⟩) [(3, 1), (3, 1)] := by
  refine ⟨_, rfl, by simp, World.grownBy_alloc _ _ none, ?_⟩
  have hr : Row (w.alloc (.cells #[.int .u8 3, .int .u8 1, .int .u8 3, .int .u8 1] t)) w.heap.size t #[.int .u8 3, .int .u8 1, .int .u8 3, .int .u8 1] := heap_alloc_new w _
  intro k hk
  refine ⟨_, 0, rfl, ?_⟩
  intro j v hj
  match k, j, hk, hj with
  | 0, 0, _, hj => rw [Row.cell hr]; simpa [bval] using hj
  | 0, 1, _, hj => rw [Row.cell hr]; simpa [bval] using hj
  | 1, 0, _, hj => rw [Row.cell hr]; simpa [bval] using hj
  | 1, 1, _, hj => rw [Row.cell hr]; simpa [bval] using hj
  | 0, j + 2, _, hj => simp at hj
  | 1, j + 2, _, hj => simp at hj
  | k + 2, _, hk, _ => simp at hk; omega

theorem grownBy_d1' {a b : World} {r : Option Nat} (h : a.grownBy b r) : a.grownBy b.drew r := ⟨h.os, h.tape, h.output, h.size, h.block⟩

set_option maxRecDepth 100000 in
set_option maxHeartbeats 4000000 in
theorem names_walk (w : World) : Calls Try.prog 12 #[] w fun e w' => e = .returned (.bool true) ∧ w.grownBy w' none := by
  have c1 : ∀ W : World, Calls Try.prog 22 #[.int .u8 1, .int .u8 3] W fun e w' => e = .returned (.tuple #[.int .u8 244, .int .i64 0]) ∧ W = w' := fun W => by
    have h := div_i 1 3 1 3 W rfl rfl
    rw [nm1, nm3] at h
    exact h
  have C1H := Lib.hid c1
  clear c1
  have c2 : ∀ W : World, Calls Try.prog 22 #[.int .u8 0, .int .u8 9] W fun e w' => e = .returned (.tuple #[.int .u8 0, .int .i64 0]) ∧ W = w' := fun W => by
    have h := div_i 0 9 0 9 W rfl rfl
    rw [nm2, nm4] at h
    exact h
  have C2H := Lib.hid c2
  clear c2
  have c3 : ∀ W : World, Calls Try.prog 21 #[.int .u8 0] W fun e w' => e = .returned (.tuple #[.int .u8 0, .int .i64 60]) ∧ W = w' := fun W => by
    have h := inv_i 0 0 W rfl
    rw [nm5, nm6] at h
    exact h
  have C3H := Lib.hid c3
  clear c3
  have c4 : ∀ W : World, Calls Try.prog 13 #[.int .u8 5, .int .u8 3] W fun e w' => e = .returned (.int .u8 6) ∧ W = w' := fun W => by
    have h := addI (x := 5) (y := 3) (r := 6) (a := 5) (b := 3) W rfl rfl (by rw [nm7]; rfl)
    exact h
  have C4H := Lib.hid c4
  clear c4
  have c5 : ∀ W : World, Calls Try.prog 19 #[.int .u8 7, .int .u8 7] W fun e w' => e = .returned (.int .u8 21) ∧ W = w' := fun W => by
    have h := mulI (x := 7) (y := 7) (r := 21) (a := 7) (b := 7) W rfl rfl (by rw [nm8]; rfl)
    exact h
  have C5H := Lib.hid c5
  clear c5
  have c6 : ∀ W : World, Calls Try.prog 41 #[.int .i64 0] W fun e w' => e = .returned (.int .u8 1) ∧ W.grownBy w' none := fun W => by
    have h := exp_any 0 W (by omega)
    rw [nx0] at h
    exact h
  have C6H := Lib.hid c6
  clear c6
  have c7 : ∀ W : World, Calls Try.prog 41 #[.int .i64 255] W fun e w' => e = .returned (.int .u8 1) ∧ W.grownBy w' none := fun W => by
    have h := exp_any 255 W (by omega)
    rw [nx1] at h
    exact h
  have C7H := Lib.hid c7
  clear c7
  have c8 : ∀ W : World, Calls Try.prog 41 #[.int .i64 (-1)] W fun e w' => e = .returned (.int .u8 142) ∧ W.grownBy w' none := fun W => by
    have h := exp_any (-1) W (by omega)
    rw [nx2] at h
    exact h
  have C8H := Lib.hid c8
  clear c8
  have c9 : ∀ W : World, Calls Try.prog 37 #[.int .u8 29] W fun e w' => e = .returned (.tuple #[.int .i64 8, .int .i64 0]) ∧ W.grownBy w' none := fun W => by
    have h := log_i 29 29 W rfl
    rw [nl1, nl4] at h
    exact h
  have C9H := Lib.hid c9
  clear c9
  have c10 : ∀ W : World, Calls Try.prog 37 #[.int .u8 1] W fun e w' => e = .returned (.tuple #[.int .i64 0, .int .i64 0]) ∧ W.grownBy w' none := fun W => by
    have h := log_i 1 1 W rfl
    rw [nl2, nl5] at h
    exact h
  have C10H := Lib.hid c10
  clear c10
  have c11 : ∀ W : World, Calls Try.prog 37 #[.int .u8 0] W fun e w' => e = .returned (.tuple #[.int .i64 0, .int .i64 60]) ∧ W.grownBy w' none := fun W => by
    have h := log_i 0 0 W rfl
    rw [nl3, nm6] at h
    exact h
  have C11H := Lib.hid c11
  clear c11
  have c12 : ∀ W : World, Calls Try.prog 38 #[.int .u8 3, .int .i64 2] W fun e w' => e = .returned (.tuple #[.int .u8 5, .int .i64 0]) ∧ W.grownBy w' none := fun W => by
    have h := pow_i 3 3 2 W rfl (by omega)
    rw [np1, ne1] at h
    exact h
  have C12H := Lib.hid c12
  clear c12
  have c13 : ∀ W : World, Calls Try.prog 38 #[.int .u8 0, .int .i64 0] W fun e w' => e = .returned (.tuple #[.int .u8 1, .int .i64 0]) ∧ W.grownBy w' none := fun W => by
    have h := pow_i 0 0 0 W rfl (by omega)
    rw [np2, ne20] at h
    exact h
  have C13H := Lib.hid c13
  clear c13
  have c14 : ∀ W : World, Calls Try.prog 38 #[.int .u8 0, .int .i64 (-1)] W fun e w' => e = .returned (.tuple #[.int .u8 0, .int .i64 60]) ∧ W.grownBy w' none := fun W => by
    have h := pow_i 0 0 (-1) W rfl (by omega)
    rw [np3, ne3] at h
    exact h
  have C14H := Lib.hid c14
  clear c14
  have c15 : ∀ W : World, Calls Try.prog 38 #[.int .u8 2, .int .i64 (-1)] W fun e w' => e = .returned (.tuple #[.int .u8 142, .int .i64 0]) ∧ W.grownBy w' none := fun W => by
    have h := pow_i 2 2 (-1) W rfl (by omega)
    rw [np4, ne4] at h
    exact h
  have C15H := Lib.hid c15
  clear c15
  have c16 : ∀ (W : World) (a b : Option Addr), BLies W a [1, 2] → BLies W b [3, 4] → Calls Try.prog 27 #[.slice a 2 2, .slice b 2 2] W fun e w' => e = .returned (.tuple #[.int .u8 11, .int .i64 0]) ∧ W = w' := fun W a b ha hb => by
    have h := dot_n a b 2 2 2 2 [1, 2] [3, 4] W ha hb rfl rfl (by decide) (by decide)
    rw [nd1, nd2] at h
    exact h
  have C16H := Lib.hid c16
  clear c16
  have c17 : ∀ (W : World) (a : Option Addr), BLies W a [1] → Calls Try.prog 27 #[.slice a 1 1, .slice none 0 0] W fun e w' => e = .returned (.tuple #[.int .u8 0, .int .i64 61]) ∧ W = w' := fun W a ha => by
    have h := dot_n a none 1 0 1 0 [1] [] W ha (BLies.nil _ _) rfl rfl (by decide) (by decide)
    rw [nd3, nd4] at h
    exact h
  have C17H := Lib.hid c17
  clear c17
  have c18 : ∀ (W : World) (a b : Option Addr), BLies W a (List.replicate 257 0) → BLies W b (List.replicate 257 0) → Calls Try.prog 27 #[.slice a 257 257, .slice b 257 257] W fun e w' => e = .returned (.tuple #[.int .u8 0, .int .i64 61]) ∧ W = w' := fun W a b ha hb => by
    have h := dot_n a b 257 257 257 257 (List.replicate 257 0) (List.replicate 257 0) W ha hb (by simp) (by simp) (by decide) (by decide)
    rw [nd5, nd6] at h
    exact h
  have C18H := Lib.hid c18
  clear c18
  have c19 : ∀ (W : World) (a : Option Addr), BLies W a [1, 2] → Calls Try.prog 28 #[.slice a 2 2, .int .u8 2] W fun e w' => ∃ a' c', e = .returned (.slice a' 2 c') ∧ BOwn w' W.heap.size a' 2 c' [2, 4] ∧ W.grownBy w' none := fun W a ha => by
    have h := scale_n a 2 2 [1, 2] 2 W ha rfl (by omega)
    rw [ns1] at h
    exact h
  have C19H := Lib.hid c19
  clear c19
  have c20 : ∀ (W : World) (a b : Option Addr), BLies W a [1, 0, 1] → BLies W b [1, 1, 0] → Calls Try.prog 44 #[.slice a 3 3, .slice b 3 3] W fun e w' => ∃ aq nq cq ar nr cr, e = .returned (.tuple #[.slice aq nq cq, .slice ar nr cr, .int .i64 0]) ∧ BOwn w' W.heap.size aq nq cq [1, 1] ∧ BOwn w' W.heap.size ar nr cr [] ∧ W.grownBy w' none := fun W a b ha hb => by
    have h := over_nn a b 3 3 3 3 [1, 0, 1] [1, 1, 0] W ha hb rfl rfl (by omega) (by omega) (by omega) (by omega)
    rw [no1, no2, no3] at h
    exact h.mono fun e w' ⟨aq, nq, cq, ar, nr, cr, h1, h2, h3, _, h5⟩ => ⟨aq, nq, cq, ar, nr, cr, h1, h2, h3, h5⟩
  have C20H := Lib.hid c20
  clear c20
  have c21 : ∀ (W : World) (a b : Option Addr), BLies W a [1] → BLies W b [0, 0] → Calls Try.prog 44 #[.slice a 1 1, .slice b 2 2] W fun e w' => ∃ aq nq cq ar nr cr, e = .returned (.tuple #[.slice aq nq cq, .slice ar nr cr, .int .i64 60]) ∧ W.grownBy w' none := fun W a b ha hb => by
    have h := over_nn a b 1 2 1 2 [1] [0, 0] W ha hb rfl rfl (by omega) (by omega) (by omega) (by omega)
    rw [no4] at h
    exact h.mono fun e w' ⟨aq, nq, cq, ar, nr, cr, h1, _, _, _, h5⟩ => ⟨aq, nq, cq, ar, nr, cr, h1, h5⟩
  have C21H := Lib.hid c21
  clear c21
  have c22 : ∀ (W : World) (a : Option Addr), PLies W a [(3, 1), (3, 1)] → Calls Try.prog 47 #[.slice a 2 2] W fun e w' => ∃ a' n' c', e = .returned (.tuple #[.slice a' n' c', .int .i64 62]) ∧ W.grownBy w' none := fun W a ha => by
    have h := through_n a 2 2 [(3, 1), (3, 1)] W ha rfl (by omega)
    rw [nt1] at h
    exact h.mono fun e w' ⟨a', n', c', h1, _, h3⟩ => ⟨a', n', c', h1, h3⟩
  have C22H := Lib.hid c22
  clear c22
  go_enter Try.func12, Try.ntmps12
  go_wp2_with fail
  have G0 := Lib.hid (World.grownBy.refl w none)
  refine (awake_n _).mono ?_
  rintro e V0 ⟨rfl, g⟩
  have G1 := Lib.hid (grownBy_trans G0.out g)
  clear G0
  clear g
  go_wp2_with fail
  refine (C1H.out _).mono ?_
  rintro e w' ⟨rfl, rfl⟩
  go_wp2_with fail
  refine (C2H.out _).mono ?_
  rintro e w' ⟨rfl, rfl⟩
  go_wp2_with fail
  refine (C3H.out _).mono ?_
  rintro e w' ⟨rfl, rfl⟩
  go_wp2_with fail
  refine (C4H.out _).mono ?_
  rintro e w' ⟨rfl, rfl⟩
  go_wp2_with fail
  refine (C5H.out _).mono ?_
  rintro e w' ⟨rfl, rfl⟩
  go_wp2_with fail
  refine (C6H.out _).mono ?_
  rintro e V1 ⟨rfl, g⟩
  have G2 := Lib.hid (grownBy_trans G1.out g)
  clear G1
  clear g
  go_wp2_with fail
  refine (C7H.out _).mono ?_
  rintro e V2 ⟨rfl, g⟩
  have G3 := Lib.hid (grownBy_trans G2.out g)
  clear G2
  clear g
  go_wp2_with fail
  refine (C8H.out _).mono ?_
  rintro e V3 ⟨rfl, g⟩
  have G4 := Lib.hid (grownBy_trans G3.out g)
  clear G3
  clear g
  go_wp2_with fail
  refine (C9H.out _).mono ?_
  rintro e V4 ⟨rfl, g⟩
  have G5 := Lib.hid (grownBy_trans G4.out g)
  clear G4
  clear g
  go_wp2_with fail
  refine (C10H.out _).mono ?_
  rintro e V5 ⟨rfl, g⟩
  have G6 := Lib.hid (grownBy_trans G5.out g)
  clear G5
  clear g
  go_wp2_with fail
  refine (C11H.out _).mono ?_
  rintro e V6 ⟨rfl, g⟩
  have G7 := Lib.hid (grownBy_trans G6.out g)
  clear G6
  clear g
  go_wp2_with fail
  refine (C12H.out _).mono ?_
  rintro e V7 ⟨rfl, g⟩
  have G8 := Lib.hid (grownBy_trans G7.out g)
  clear G7
  clear g
  go_wp2_with fail
  refine (C13H.out _).mono ?_
  rintro e V8 ⟨rfl, g⟩
  have G9 := Lib.hid (grownBy_trans G8.out g)
  clear G8
  clear g
  go_wp2_with fail
  refine (C14H.out _).mono ?_
  rintro e V9 ⟨rfl, g⟩
  have G10 := Lib.hid (grownBy_trans G9.out g)
  clear G9
  clear g
  go_wp2_with fail
  refine (C15H.out _).mono ?_
  rintro e V10 ⟨rfl, g⟩
  have G11 := Lib.hid (grownBy_trans G10.out g)
  clear G10
  clear g
  go_wp2_with fail
  obtain ⟨U1, eU1, zU1, gU1, lU1⟩ := lies_new V10 5 [1, 2] _ row_r12
  rw [← eU1]
  obtain ⟨U2, eU2, zU2, gU2, lU2⟩ := lies_new U1 5 [3, 4] _ row_r34
  rw [← zU1, ← eU2]
  have hc := C16H.out U2 (some ⟨V10.heap.size, 0, none⟩) (some ⟨U1.heap.size, 0, none⟩) (lU1.grown gU2) lU2
  have G12 := Lib.hid (grownBy_trans G11.out (grownBy_trans gU1 gU2))
  clear G11
  clear eU1 zU1 gU1 lU1 eU2 zU2 gU2 lU2
  refine hc.mono ?_
  rintro e w' ⟨rfl, rfl⟩
  clear hc
  go_wp2_with fail
  obtain ⟨U3, eU3, zU3, gU3, lU3⟩ := lies_new U2 5 [1] _ row_r1
  rw [← eU3]
  have hc := C17H.out U3 (some ⟨U2.heap.size, 0, none⟩) lU3
  have G13 := Lib.hid (grownBy_trans G12.out gU3)
  clear G12
  clear eU3 zU3 gU3 lU3
  refine hc.mono ?_
  rintro e w' ⟨rfl, rfl⟩
  clear hc
  go_wp2_with fail
  obtain ⟨zl, hzl⟩ : ∃ zl, zl = List.replicate 257 (0 : UInt8) := ⟨_, rfl⟩
  have C18Z := Lib.hid C18H.out
  rw [← hzl] at C18Z
  have hmk : ∀ W, (Instr.makeSlice 33 (.int .i64 257) (.int .i64 257)).run Try.prog W = .ok (.slice (some ⟨W.heap.size, 0, none⟩) 257 257) (W.alloc (.cells (rowB zl) 5)) := by
    intro W
    have h := run_make_row' (P := Try.prog) 33 5 (.int .u8 0) 1 Try.underlying33 (by kernel_rfl) rfl .i64 .i64 257 (by omega) (by omega) W
    rw [madeCells_u8, ← hzl] at h
    exact h
  have hz0 : BLies ((U3.alloc (.cells (rowB zl) 5)).alloc (.cells (rowB zl) 5)).drew (some ⟨U3.heap.size, 0, none⟩) zl := by
    have h1 : BRow (U3.alloc (.cells (rowB zl) 5)) U3.heap.size 5 zl := heap_alloc_new U3 _
    exact (BRow.lies h1).grown (grownBy_d1' (World.grownBy_alloc _ _ none))
  have hz1 : BLies ((U3.alloc (.cells (rowB zl) 5)).alloc (.cells (rowB zl) 5)).drew (some ⟨U3.heap.size + 1, 0, none⟩) zl := by
    have h1 : BRow ((U3.alloc (.cells (rowB zl) 5)).alloc (.cells (rowB zl) 5)) (U3.alloc (.cells (rowB zl) 5)).heap.size 5 zl := heap_alloc_new (U3.alloc (.cells (rowB zl) 5)) _
    rw [World.size_alloc] at h1
    exact (BRow.lies h1).grown (grownBy_d1' (World.grownBy.refl _ none))
  have hzg : U3.grownBy ((U3.alloc (.cells (rowB zl) 5)).alloc (.cells (rowB zl) 5)).drew none := grownBy_d1' (grownBy_trans (World.grownBy_alloc _ _ none) (World.grownBy_alloc _ _ none))
  have HZG := Lib.hid hzg
  clear C18H hzl hzg
  go_region_with (go_at_call 27; refine (C18Z.out _ _ _ (by assumption) (by assumption)).mono ?_; rintro e w' ⟨rfl, rfl⟩)
  all_goals
    clear hz0 hz1
    obtain ⟨U4, hU4⟩ : ∃ U4, U4 = ((U3.alloc (.cells (rowB zl) 5)).alloc (.cells (rowB zl) 5)).drew := ⟨_, rfl⟩
    rw [← hU4] at HZG ⊢
    have GA := Lib.hid (grownBy_trans G13.out HZG.out)
    clear hU4 HZG hmk G13
    go_wp2_with fail
    obtain ⟨X1, e1, z1, g1, l1⟩ := lies_new U4 5 [1, 2] _ row_r12
    rw [← e1]
    have hc := C19H.out X1 (some ⟨U4.heap.size, 0, none⟩) l1
    have GB := Lib.hid (grownBy_trans GA.out g1)
    clear e1 z1 g1 l1 GA
    refine hc.mono ?_
    rintro e X2 ⟨aS, cS, rfl, oS, g2⟩
    have GC := Lib.hid (grownBy_trans GB.out g2)
    have OS := Lib.hid oS
    clear hc g2 oS GB
    go_wp2_with fail
    obtain ⟨X3, e1, z1, g1, l1⟩ := lies_new X2 5 [2, 4] _ row_r24
    rw [← e1]
    have hc := same_yes aS (some ⟨X2.heap.size, 0, none⟩) cS 2 2 2 [2, 4] X3 ((BOwn.lies OS.out).grown g1) l1 rfl rfl (by decide)
    have GD := Lib.hid (grownBy_trans GC.out g1)
    clear e1 z1 g1 l1 GC OS
    refine hc.mono ?_
    rintro e X4 ⟨rfl, q4, hw4⟩
    have g4 : X3.grownBy X4 none := hw4 ▸ grownBy_drewN _ _ _
    have GE := Lib.hid (grownBy_trans GD.out g4)
    clear hc hw4 g4 GD
    go_wp2_with fail
    obtain ⟨X5, e1, z1, g1, l1⟩ := lies_new X4 5 [1, 0, 1] _ row101
    rw [← e1]
    obtain ⟨X6, e2, z2, g2, l2⟩ := lies_new X5 5 [1, 1, 0] _ row_r110
    rw [← z1, ← e2]
    have hc := C20H.out X6 (some ⟨X4.heap.size, 0, none⟩) (some ⟨X5.heap.size, 0, none⟩) (l1.grown g2) l2
    have GF := Lib.hid (grownBy_trans GE.out (grownBy_trans g1 g2))
    clear e1 z1 g1 l1 e2 z2 g2 l2 GE
    refine hc.mono ?_
    rintro e X7 ⟨aq, nq, cq, ar, nr, cr, rfl, oq, orr, g3⟩
    have GG := Lib.hid (grownBy_trans GF.out g3)
    have hnq : nq = 2 := oq.len.symm
    have hnr : nr = 0 := orr.len.symm
    subst hnq
    subst hnr
    have OQ := Lib.hid oq
    clear hc g3 oq orr GF
    go_wp2_with fail
    obtain ⟨X8, e1, z1, g1, l1⟩ := lies_new X7 5 [1] _ row_r1
    rw [← e1]
    obtain ⟨X9, e2, z2, g2, l2⟩ := lies_new X8 5 [0, 0] _ row_r00
    rw [← z1, ← e2]
    have hc := C21H.out X9 (some ⟨X7.heap.size, 0, none⟩) (some ⟨X8.heap.size, 0, none⟩) (l1.grown g2) l2
    have g12 := grownBy_trans g1 g2
    have GH := Lib.hid (grownBy_trans GG.out g12)
    replace OQ := Lib.hid (Own.ch OQ.out (Ch.ofNone g12 (fun _ => False)) (fun _ _ _ h => h))
    clear e1 z1 g1 l1 e2 z2 g2 l2 g12 GG
    refine hc.mono ?_
    rintro e Y1 ⟨aq2, nq2, cq2, ar2, nr2, cr2, rfl, g3⟩
    have GI := Lib.hid (grownBy_trans GH.out g3)
    replace OQ := Lib.hid (Own.ch OQ.out (Ch.ofNone g3 (fun _ => False)) (fun _ _ _ h => h))
    clear hc g3 GH
    go_wp2_with fail
    obtain ⟨Y2, e1, z1, g1, l1⟩ := pts_new33 Y1 54
    rw [← e1]
    have hc := C22H.out Y2 (some ⟨Y1.heap.size, 0, none⟩) l1
    have GJ := Lib.hid (grownBy_trans GI.out g1)
    replace OQ := Lib.hid (Own.ch OQ.out (Ch.ofNone g1 (fun _ => False)) (fun _ _ _ h => h))
    clear e1 z1 g1 l1 GI
    refine hc.mono ?_
    rintro e Y3 ⟨at2, nt2, ct2, rfl, g3⟩
    have GK := Lib.hid (grownBy_trans GJ.out g3)
    replace OQ := Lib.hid (Own.ch OQ.out (Ch.ofNone g3 (fun _ => False)) (fun _ _ _ h => h))
    clear hc g3 GJ
    go_wp2_with fail
    obtain ⟨Y4, e1, z1, g1, l1⟩ := lies_new Y3 5 [1, 1] _ row11
    rw [← e1]
    have hc := same_yes aq (some ⟨Y3.heap.size, 0, none⟩) cq 2 2 2 [1, 1] Y4 ((BOwn.lies OQ.out).grown g1) l1 rfl rfl (by decide)
    have GL := Lib.hid (grownBy_trans GK.out g1)
    clear e1 z1 g1 l1 GK OQ
    refine hc.mono ?_
    rintro e Y5 ⟨rfl, q5, hw5⟩
    have g4 : Y4.grownBy Y5 none := hw5 ▸ grownBy_drewN _ _ _
    have GM := Lib.hid (grownBy_trans GL.out g4)
    clear hc hw5 g4 GL
    go_wp2_with fail
    go_ret
    exact ⟨rfl, GM.out⟩

end Go.Proofs.Ytfikeilpgnahkaa
