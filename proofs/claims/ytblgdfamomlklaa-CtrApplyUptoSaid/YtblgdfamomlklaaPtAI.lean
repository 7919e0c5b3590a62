/- Helpers and contracts of the proofs over this seat: CtrApplyL. Each states what a function of the program answers, or is plain Lean; its conditions stand in each statement. -/
import Derived.Test.YtblgdfamomlklaaPtAA
import Derived.Test.YtblgdfamomlklaaPtAB
import Derived.Test.YtblgdfamomlklaaPtAC
import Derived.Test.YtblgdfamomlklaaPtAD
import Derived.Test.YtblgdfamomlklaaPtAE
import Derived.Test.YtblgdfamomlklaaPtAF
import Derived.Test.YtblgdfamomlklaaPtAH
set_option linter.unusedVariables false
/- The law CtrApply. -/
namespace Go.Proofs.Ytblgdfamomlklaa
open Go.RowKit

theorem stL_le (key : List UInt8) (x y : Int) (m : Nat) (h : y ≤ m) : (stL key x y).length ≤ m := by
  unfold stL
  split
  · rw [kst_len]; omega
  · simp
theorem apL_le (key : List UInt8) (x : Int) (l : List UInt8) : (apL key x l).length ≤ l.length := by
  by_cases h : stE x l.length = 0
  · rw [apL_len h]; exact Nat.le_refl _
  · rw [apL_bad h]; simp

set_option maxRecDepth 100000 in
set_option maxHeartbeats 8000000 in
theorem ctrapply_walk (key : List UInt8) (hkl : key.length = 16) (x y : Int) (hy : (Lit.int .i64 y).wf = true) (a : Option Addr) (n c : Nat) (l : List UInt8) (w : World) (ha : BLies w a l) (hl : l.length = n) :
    Calls Try.prog 5 #[aggB key, .int .i64 x, .int .i64 y, .slice a n c] w fun e w' => e = .returned (.bool true) ∧ w.grownBy w' none := by
  have HA := Lib.hid ha
  have HL := Lib.hid hl
  clear ha hl
  unfold aggB
  go_enter Try.func5, Try.ntmps5
  go_upto_region 1 with (refine wpList_boxed rfl rfl (cellsB key) rfl ?_; intro w1 hs1 hg1 hr1; have HG := Lib.hid hg1; have HW1 := Lib.hid hg1.size; have HKY := Lib.hid hr1; have HKL := Lib.hid hr1.lt; clear hs1 hg1 hr1)
  by_cases hbig : 3000 < n
  · have hd1 : decide ((3000 : Int) < (n : Int)) = true := decide_eq_true (by omega)
    have hd2 : decide (3000 < n) = true := decide_eq_true hbig
    go_wp2_with fail
    go_ret
    exact ⟨rfl, HG.out⟩
  have hd1 : decide ((3000 : Int) < (n : Int)) = false := decide_eq_false (by omega)
  have hd2 : decide (3000 < n) = false := decide_eq_false hbig
  by_cases hym : 3000 < y
  · have hd3 : decide ((3000 : Int) < y) = true := decide_eq_true hym
    obtain ⟨r, hr⟩ : ∃ r, r = y.tmod 3000 := ⟨_, rfl⟩
    have hrr : y.tmod 3000 = r := hr.symm
    have hr0 : 0 ≤ r := by rw [hr, Int.tmod_eq_emod_of_nonneg (by omega)]; omega
    have hr1 : r < 3000 := by rw [hr, Int.tmod_eq_emod_of_nonneg (by omega)]; omega
    obtain ⟨Y, hY⟩ : ∃ Y, Y = 3000 + r := ⟨_, rfl⟩
    have hYb : Y ≤ 6000 := by omega
    have hw0 := i64_small r hr0 (by omega)
    have hw1 : IntKind.i64.wrap (3000 + r) = Y := by rw [hY]; exact i64_small _ (by omega) (by omega)
    have hw2 : wrap64 (3000 + r) = Y := by rw [IntWalk.wrap64_in _ (by omega), hY]
    have hw3 : wrap64 r = r := IntWalk.wrap64_in _ (by omega)
    clear hr hY
    go_upto_region 5 with fail
    clear hw0 hw1 hw2 hw3 hrr hd1 hd2 hd3
    have hst := fun u => stream_n key hkl x Y (by omega) u
    have hrs := fun u => refStream_n key hkl x Y (by omega) u
    have hap := fun (a : Option Addr) (c : Nat) (u : World) (h : BLies u a l) => apply_n key hkl x a n c l HL.out (by omega) u h
    have hra := fun (a : Option Addr) (c : Nat) (u : World) (h : BLies u a l) => refApply_n key hkl x a n c l HL.out (by omega) u h
    have hbs : (stL key x Y).length ≤ 6000 := stL_le key x Y 6000 (by omega)
    have hbp : (apL key x l).length ≤ 3000 := Nat.le_trans (apL_le key x l) (by rw [HL.out]; omega)
    generalize stE x Y = E1 at hst hrs
    generalize stE x (n : Int) = E2 at hap hra
    generalize stL key x Y = S at hst hrs hbs
    generalize apL key x l = P at hap hra hbp
    unfold aggB at hst hrs hap hra
    have HST := Lib.hid hst
    have HRS := Lib.hid hrs
    have HAP := Lib.hid hap
    have HRA := Lib.hid hra
    have HBS := Lib.hid hbs
    have HBP := Lib.hid hbp
    clear hst hrs hap hra hbs hbp
    go_wp2_with fail
    refine (lent_n _ _ _ l _ (HA.out.grown HG.out) HL.out (by omega)).mono ?_
    rintro e w2 ⟨gA, cA, rfl, oF, g⟩
    have hcA := oF.cap.1
    have YgA : Hid (w1.heap.size ≤ gA ∧ gA < w2.heap.size) := Lib.hid (by obtain ⟨g', e, h1, h2⟩ := Own.block oF (by omega); injection e with e; injection e with e; subst e; exact ⟨h1, h2⟩)
    have HFA := Lib.hid oF
    clear oF
    have Z2 := Lib.hid g.size
    replace HG := Lib.hid (grownBy_trans HG.out g)
    replace HKY := Lib.hid (HKY.out.grown g)
    clear g
    go_upto_region 7 with (first
      | (refine wpList_load_row rfl 27 _ rfl w.heap.size rfl 27 (cellsB key) (0, 0) _ HKY.out Try.underlying27 rfl (by rw [cellsB_size, hkl]; kernel_rfl) ?_)
      | (go_at_call 18; refine (HST.out _).mono ?_; rintro e w3 ⟨a1, n1, c1, rfl, ho, g⟩; obtain rfl := ho.len; have HX1 := Lib.hid ho; have WI1 := Lib.hid (BOwn.within ho); clear ho))
    have Z3 := Lib.hid g.size
    replace HG := Lib.hid (grownBy_trans HG.out g)
    replace HKY := Lib.hid (HKY.out.grown g)
    replace HFA := Lib.hid (HFA.out.grown g)
    clear g
    go_upto_region 8 with (first
      | (refine wpList_load_row rfl 27 _ rfl w.heap.size rfl 27 (cellsB key) (0, 0) _ HKY.out Try.underlying27 rfl (by rw [cellsB_size, hkl]; kernel_rfl) ?_)
      | (go_at_call 18; refine (HST.out _).mono ?_; rintro e w4 ⟨a2, n2, c2, rfl, ho, g⟩; obtain rfl := ho.len; have HX2 := Lib.hid ho; have WI2 := Lib.hid (BOwn.within ho); clear ho))
    have Z4 := Lib.hid g.size
    replace HG := Lib.hid (grownBy_trans HG.out g)
    replace HKY := Lib.hid (HKY.out.grown g)
    replace HFA := Lib.hid (HFA.out.grown g)
    replace HX1 := Lib.hid (HX1.out.grown g)
    clear g
    refine wp_regionX (fun u => w4.grownBy u none) 11 (by kernel_rfl) (grownBy_drewN w4 1 none) ?_
    refine wpX_take 0 (v := .agg (cellsB key)) (oi := { dst := some 47, op := Op.load 27 (Operand.tmp 4), type := 27, pos := "law.go:57", after := #[], guard := none }) (oL := { dst := some 15, op := Op.assign (Operand.tmp 55), type := 36, pos := "law.go:57", after := #[{ on := 9, ground := Ground.data }, { on := 10, ground := Ground.chain }, { on := 0, ground := Ground.phase }, { on := 1, ground := Ground.phase }, { on := 2, ground := Ground.phase }, { on := 3, ground := Ground.phase }, { on := 4, ground := Ground.phase }, { on := 5, ground := Ground.phase }, { on := 6, ground := Ground.phase }, { on := 7, ground := Ground.phase }, { on := 8, ground := Ground.phase }, { on := 9, ground := Ground.phase }, { on := 10, ground := Ground.phase }], guard := none }) (clo_grown _) rfl rfl rfl (by kernel_rfl) (by kernel_rfl) (by kernel_rfl) (by kernel_rfl) (by kernel_rfl) (fun _ _ _ h => h) (YG.val (by rfl) (fun u hu => run_load_op u _ 27 (.tmp 4) rfl w.heap.size rfl 27 (cellsB key) (HKY.out.grown hu) Try.underlying27 rfl (by rw [cellsB_size, hkl]; kernel_rfl))) ?_
    simp only [Act.put, List.setIfInBounds_toArray, List.set_cons_zero, List.set_cons_succ]
    refine wpX_take 1 (v := .int .i64 x) (oi := { dst := some 48, op := Op.move (Operand.tmp 1), type := 3, pos := "law.go:57", after := #[], guard := none }) (oL := { dst := some 15, op := Op.assign (Operand.tmp 55), type := 36, pos := "law.go:57", after := #[{ on := 9, ground := Ground.data }, { on := 10, ground := Ground.chain }, { on := 0, ground := Ground.phase }, { on := 1, ground := Ground.phase }, { on := 2, ground := Ground.phase }, { on := 3, ground := Ground.phase }, { on := 4, ground := Ground.phase }, { on := 5, ground := Ground.phase }, { on := 6, ground := Ground.phase }, { on := 7, ground := Ground.phase }, { on := 8, ground := Ground.phase }, { on := 9, ground := Ground.phase }, { on := 10, ground := Ground.phase }], guard := none }) (clo_grown _) rfl rfl rfl (by kernel_rfl) (by kernel_rfl) (by kernel_rfl) (by kernel_rfl) (by kernel_rfl) (fun _ _ _ h => h) (YG.val (by rfl) (fun _ _ => rfl)) ?_
    simp only [Act.put, List.setIfInBounds_toArray, List.set_cons_zero, List.set_cons_succ]
    refine wpX_take 2 (v := .slice (some ⟨gA, 0, none⟩) (n + 70) cA) (oi := { dst := some 49, op := Op.move (Operand.tmp 9), type := 34, pos := "law.go:57", after := #[], guard := none }) (oL := { dst := some 15, op := Op.assign (Operand.tmp 55), type := 36, pos := "law.go:57", after := #[{ on := 9, ground := Ground.data }, { on := 10, ground := Ground.chain }, { on := 0, ground := Ground.phase }, { on := 1, ground := Ground.phase }, { on := 2, ground := Ground.phase }, { on := 3, ground := Ground.phase }, { on := 4, ground := Ground.phase }, { on := 5, ground := Ground.phase }, { on := 6, ground := Ground.phase }, { on := 7, ground := Ground.phase }, { on := 8, ground := Ground.phase }, { on := 9, ground := Ground.phase }, { on := 10, ground := Ground.phase }], guard := none }) (clo_grown _) rfl rfl rfl (by kernel_rfl) (by kernel_rfl) (by kernel_rfl) (by kernel_rfl) (by kernel_rfl) (fun _ _ _ h => h) (YG.val (by rfl) (fun _ _ => rfl)) ?_
    simp only [Act.put, List.setIfInBounds_toArray, List.set_cons_zero, List.set_cons_succ]
    refine wpX_take 3 (v := .slice a n c) (oi := { dst := some 50, op := Op.move (Operand.tmp 3), type := 34, pos := "law.go:57", after := #[], guard := none }) (oL := { dst := some 15, op := Op.assign (Operand.tmp 55), type := 36, pos := "law.go:57", after := #[{ on := 9, ground := Ground.data }, { on := 10, ground := Ground.chain }, { on := 0, ground := Ground.phase }, { on := 1, ground := Ground.phase }, { on := 2, ground := Ground.phase }, { on := 3, ground := Ground.phase }, { on := 4, ground := Ground.phase }, { on := 5, ground := Ground.phase }, { on := 6, ground := Ground.phase }, { on := 7, ground := Ground.phase }, { on := 8, ground := Ground.phase }, { on := 9, ground := Ground.phase }, { on := 10, ground := Ground.phase }], guard := none }) (clo_grown _) rfl rfl rfl (by kernel_rfl) (by kernel_rfl) (by kernel_rfl) (by kernel_rfl) (by kernel_rfl) (fun _ _ _ h => h) (YG.val (by rfl) (fun _ _ => rfl)) ?_
    simp only [Act.put, List.setIfInBounds_toArray, List.set_cons_zero, List.set_cons_succ]
    refine wpX_take 4 (v := .int .i64 (n : Int)) (oi := { dst := some 51, op := Op.call { callee := Callee.builtin Builtin.len, args := #[Operand.tmp 50], argTypes := #[34] }, type := 3, pos := "law.go:57", after := #[{ on := 3, ground := Ground.data }], guard := none }) (oL := { dst := some 15, op := Op.assign (Operand.tmp 55), type := 36, pos := "law.go:57", after := #[{ on := 9, ground := Ground.data }, { on := 10, ground := Ground.chain }, { on := 0, ground := Ground.phase }, { on := 1, ground := Ground.phase }, { on := 2, ground := Ground.phase }, { on := 3, ground := Ground.phase }, { on := 4, ground := Ground.phase }, { on := 5, ground := Ground.phase }, { on := 6, ground := Ground.phase }, { on := 7, ground := Ground.phase }, { on := 8, ground := Ground.phase }, { on := 9, ground := Ground.phase }, { on := 10, ground := Ground.phase }], guard := none }) (clo_grown _) rfl rfl rfl (by kernel_rfl) (by kernel_rfl) (by kernel_rfl) (by kernel_rfl) (by kernel_rfl) (fun _ _ _ h => h) (YG.val (by rfl) (fun _ _ => by go_simp)) ?_
    simp only [Act.put, List.setIfInBounds_toArray, List.set_cons_zero, List.set_cons_succ]
    refine wpX_take 5 (v := .slice (some ⟨gA, 0, none⟩) n cA) (oi := { dst := some 52, op := Op.slice 34 (Operand.tmp 49) none (some (Operand.tmp 51)) none, type := 34, pos := "law.go:57", after := #[{ on := 2, ground := Ground.data }, { on := 4, ground := Ground.data }], guard := none }) (oL := { dst := some 15, op := Op.assign (Operand.tmp 55), type := 36, pos := "law.go:57", after := #[{ on := 9, ground := Ground.data }, { on := 10, ground := Ground.chain }, { on := 0, ground := Ground.phase }, { on := 1, ground := Ground.phase }, { on := 2, ground := Ground.phase }, { on := 3, ground := Ground.phase }, { on := 4, ground := Ground.phase }, { on := 5, ground := Ground.phase }, { on := 6, ground := Ground.phase }, { on := 7, ground := Ground.phase }, { on := 8, ground := Ground.phase }, { on := 9, ground := Ground.phase }, { on := 10, ground := Ground.phase }], guard := none }) (clo_grown _) rfl rfl rfl (by kernel_rfl) (by kernel_rfl) (by kernel_rfl) (by kernel_rfl) (by kernel_rfl) (fun _ _ _ h => h) (YG.val (by rfl) (fun u _ => run_pre_op u _ (.tmp 49) (.tmp 51) rfl gA (n + 70) cA n rfl rfl (by omega))) ?_
    simp only [Act.put, List.setIfInBounds_toArray, List.set_cons_zero, List.set_cons_succ]
    refine wpX_step 6 (o := { dst := some 53, op := Op.call { callee := Callee.value (Operand.func 19), args := #[Operand.tmp 47, Operand.tmp 48, Operand.tmp 52], argTypes := #[27, 3, 34] }, type := 37, pos := "law.go:57", after := #[{ on := 0, ground := Ground.data }, { on := 1, ground := Ground.data }, { on := 5, ground := Ground.data }], guard := none }) rfl rfl (by kernel_rfl) (by rfl) (fun u2 hS2 K hK => ?_)
    have HK := Lib.hid hK
    have HS2 := Lib.hid hS2
    clear hK hS2
    refine wp_call_op (f := 19) (args := #[.agg (cellsB key), .int .i64 x, .slice (some ⟨gA, 0, none⟩) n cA]) (w1 := u2) (by go_simp) ((HAP.out _ _ u2 (by have h := (HFA.out.grown HS2.out).lies.take n; rw [lent_take l n HL.out] at h; exact h)).mono ?_)
    rintro e u3 ⟨a3, m3, c3, rfl, ho, hg⟩
    obtain rfl := ho.len
    refine ⟨_, rfl, HK.out (fun u => u3.grownBy u none) _ _ (World.grownBy.refl _ _) (fun u h => grownBy_trans (grownBy_trans HS2.out hg) h) (clo_grown u3) ?_⟩
    simp only [Act.put, List.setIfInBounds_toArray, List.set_cons_zero, List.set_cons_succ]
    refine wpX_take 7 (v := .tuple #[.slice a3 P.length c3, .int .i64 E2]) (oi := { dst := some 46, op := Op.move (Operand.tmp 53), type := 37, pos := "law.go:57", after := #[{ on := 6, ground := Ground.data }], guard := none }) (oL := { dst := some 15, op := Op.assign (Operand.tmp 55), type := 36, pos := "law.go:57", after := #[{ on := 9, ground := Ground.data }, { on := 10, ground := Ground.chain }, { on := 0, ground := Ground.phase }, { on := 1, ground := Ground.phase }, { on := 2, ground := Ground.phase }, { on := 3, ground := Ground.phase }, { on := 4, ground := Ground.phase }, { on := 5, ground := Ground.phase }, { on := 6, ground := Ground.phase }, { on := 7, ground := Ground.phase }, { on := 8, ground := Ground.phase }, { on := 9, ground := Ground.phase }, { on := 10, ground := Ground.phase }], guard := none }) (clo_grown _) rfl rfl rfl (by kernel_rfl) (by kernel_rfl) (by kernel_rfl) (by kernel_rfl) (by kernel_rfl) (fun _ _ _ h => h) (YG.val (by rfl) (fun _ _ => rfl)) ?_
    simp only [Act.put, List.setIfInBounds_toArray, List.set_cons_zero, List.set_cons_succ]
    refine wpX_take 8 (v := .slice a3 P.length c3) (oi := { dst := some 54, op := Op.extract (Operand.tmp 46) 0, type := 34, pos := "law.go:57", after := #[{ on := 7, ground := Ground.data }], guard := none }) (oL := { dst := some 15, op := Op.assign (Operand.tmp 55), type := 36, pos := "law.go:57", after := #[{ on := 9, ground := Ground.data }, { on := 10, ground := Ground.chain }, { on := 0, ground := Ground.phase }, { on := 1, ground := Ground.phase }, { on := 2, ground := Ground.phase }, { on := 3, ground := Ground.phase }, { on := 4, ground := Ground.phase }, { on := 5, ground := Ground.phase }, { on := 6, ground := Ground.phase }, { on := 7, ground := Ground.phase }, { on := 8, ground := Ground.phase }, { on := 9, ground := Ground.phase }, { on := 10, ground := Ground.phase }], guard := none }) (clo_grown _) rfl rfl rfl (by kernel_rfl) (by kernel_rfl) (by kernel_rfl) (by kernel_rfl) (by kernel_rfl) (fun _ _ _ h => h) (YG.val (by rfl) (fun _ _ => by go_simp)) ?_
    simp only [Act.put, List.setIfInBounds_toArray, List.set_cons_zero, List.set_cons_succ]
    refine wpX_take 9 (v := .int .i64 E2) (oi := { dst := some 55, op := Op.extract (Operand.tmp 46) 1, type := 36, pos := "law.go:57", after := #[{ on := 7, ground := Ground.data }, { on := 10, ground := Ground.gcOnly Departure.lateStores }], guard := none }) (oL := { dst := some 15, op := Op.assign (Operand.tmp 55), type := 36, pos := "law.go:57", after := #[{ on := 9, ground := Ground.data }, { on := 10, ground := Ground.chain }, { on := 0, ground := Ground.phase }, { on := 1, ground := Ground.phase }, { on := 2, ground := Ground.phase }, { on := 3, ground := Ground.phase }, { on := 4, ground := Ground.phase }, { on := 5, ground := Ground.phase }, { on := 6, ground := Ground.phase }, { on := 7, ground := Ground.phase }, { on := 8, ground := Ground.phase }, { on := 9, ground := Ground.phase }, { on := 10, ground := Ground.phase }], guard := none }) (clo_grown _) rfl rfl rfl (by kernel_rfl) (by kernel_rfl) (by kernel_rfl) (by kernel_rfl) (by kernel_rfl) (fun _ _ _ h => h) (YG.val (by rfl) (fun _ _ => by go_simp)) ?_
    simp only [Act.put, List.setIfInBounds_toArray, List.set_cons_zero, List.set_cons_succ]
    refine wpX_take 10 (v := .slice a3 P.length c3) (oi := { dst := some 14, op := Op.assign (Operand.tmp 54), type := 34, pos := "law.go:57", after := #[{ on := 8, ground := Ground.data }, { on := 6, ground := Ground.chain }, { on := 0, ground := Ground.phase }, { on := 1, ground := Ground.phase }, { on := 2, ground := Ground.phase }, { on := 3, ground := Ground.phase }, { on := 4, ground := Ground.phase }, { on := 5, ground := Ground.phase }, { on := 6, ground := Ground.phase }, { on := 7, ground := Ground.phase }, { on := 8, ground := Ground.phase }, { on := 9, ground := Ground.textOnly Departure.lateStores }], guard := none }) (oL := { dst := some 15, op := Op.assign (Operand.tmp 55), type := 36, pos := "law.go:57", after := #[{ on := 9, ground := Ground.data }, { on := 10, ground := Ground.chain }, { on := 0, ground := Ground.phase }, { on := 1, ground := Ground.phase }, { on := 2, ground := Ground.phase }, { on := 3, ground := Ground.phase }, { on := 4, ground := Ground.phase }, { on := 5, ground := Ground.phase }, { on := 6, ground := Ground.phase }, { on := 7, ground := Ground.phase }, { on := 8, ground := Ground.phase }, { on := 9, ground := Ground.phase }, { on := 10, ground := Ground.phase }], guard := none }) (clo_grown _) rfl rfl rfl (by kernel_rfl) (by kernel_rfl) (by kernel_rfl) (by kernel_rfl) (by kernel_rfl) (fun _ _ _ h => h) (YG.val (by rfl) (fun _ _ => rfl)) ?_
    simp only [Act.put, List.setIfInBounds_toArray, List.set_cons_zero, List.set_cons_succ]
    refine wpX_last (oL := { dst := some 15, op := Op.assign (Operand.tmp 55), type := 36, pos := "law.go:57", after := #[{ on := 9, ground := Ground.data }, { on := 10, ground := Ground.chain }, { on := 0, ground := Ground.phase }, { on := 1, ground := Ground.phase }, { on := 2, ground := Ground.phase }, { on := 3, ground := Ground.phase }, { on := 4, ground := Ground.phase }, { on := 5, ground := Ground.phase }, { on := 6, ground := Ground.phase }, { on := 7, ground := Ground.phase }, { on := 8, ground := Ground.phase }, { on := 9, ground := Ground.phase }, { on := 10, ground := Ground.phase }], guard := none }) rfl (by kernel_rfl) (by kernel_rfl) (by rfl) (fun u4 hS4 K4 hK4 => ?_)
    refine wp_val_op (v := .int .i64 E2) (w1 := u4) (rfl) (hK4 _ _ ?_)
    simp only [Act.put, List.setIfInBounds_toArray, List.set_cons_zero, List.set_cons_succ]
    obtain ⟨w5, hwn⟩ : ∃ w5, w5 = u4 := ⟨_, rfl⟩
    rw [← hwn] at hS4 ⊢
    have HX3 := Lib.hid ((BOwn.grown ho hS4).mono HS2.out.size)
    have g := grownBy_trans (grownBy_trans HS2.out hg) hS4
    clear hwn ho hg hS4 HS2 HK hK4
    have Z5 := Lib.hid g.size
    replace HG := Lib.hid (grownBy_trans HG.out g)
    replace HKY := Lib.hid (HKY.out.grown g)
    replace HFA := Lib.hid (HFA.out.grown g)
    replace HX1 := Lib.hid (HX1.out.grown g)
    replace HX2 := Lib.hid (HX2.out.grown g)
    clear g
    have WI3 := Lib.hid (BOwn.within HX3.out)
    go_upto_region 9 with fail
    refine wp_regionX (fun u => w5.grownBy u none) 11 (by kernel_rfl) (grownBy_drewN w5 1 none) ?_
    refine wpX_take 0 (v := .agg (cellsB key)) (oi := { dst := some 57, op := Op.load 27 (Operand.tmp 4), type := 27, pos := "law.go:58", after := #[], guard := none }) (oL := { dst := some 17, op := Op.assign (Operand.tmp 65), type := 36, pos := "law.go:58", after := #[{ on := 9, ground := Ground.data }, { on := 10, ground := Ground.chain }, { on := 0, ground := Ground.phase }, { on := 1, ground := Ground.phase }, { on := 2, ground := Ground.phase }, { on := 3, ground := Ground.phase }, { on := 4, ground := Ground.phase }, { on := 5, ground := Ground.phase }, { on := 6, ground := Ground.phase }, { on := 7, ground := Ground.phase }, { on := 8, ground := Ground.phase }, { on := 9, ground := Ground.phase }, { on := 10, ground := Ground.phase }], guard := none }) (clo_grown _) rfl rfl rfl (by kernel_rfl) (by kernel_rfl) (by kernel_rfl) (by kernel_rfl) (by kernel_rfl) (fun _ _ _ h => h) (YG.val (by rfl) (fun u hu => run_load_op u _ 27 (.tmp 4) rfl w.heap.size rfl 27 (cellsB key) (HKY.out.grown hu) Try.underlying27 rfl (by rw [cellsB_size, hkl]; kernel_rfl))) ?_
    simp only [Act.put, List.setIfInBounds_toArray, List.set_cons_zero, List.set_cons_succ]
    refine wpX_take 1 (v := .int .i64 x) (oi := { dst := some 58, op := Op.move (Operand.tmp 1), type := 3, pos := "law.go:58", after := #[], guard := none }) (oL := { dst := some 17, op := Op.assign (Operand.tmp 65), type := 36, pos := "law.go:58", after := #[{ on := 9, ground := Ground.data }, { on := 10, ground := Ground.chain }, { on := 0, ground := Ground.phase }, { on := 1, ground := Ground.phase }, { on := 2, ground := Ground.phase }, { on := 3, ground := Ground.phase }, { on := 4, ground := Ground.phase }, { on := 5, ground := Ground.phase }, { on := 6, ground := Ground.phase }, { on := 7, ground := Ground.phase }, { on := 8, ground := Ground.phase }, { on := 9, ground := Ground.phase }, { on := 10, ground := Ground.phase }], guard := none }) (clo_grown _) rfl rfl rfl (by kernel_rfl) (by kernel_rfl) (by kernel_rfl) (by kernel_rfl) (by kernel_rfl) (fun _ _ _ h => h) (YG.val (by rfl) (fun _ _ => rfl)) ?_
    simp only [Act.put, List.setIfInBounds_toArray, List.set_cons_zero, List.set_cons_succ]
    refine wpX_take 2 (v := .slice (some ⟨gA, 0, none⟩) (n + 70) cA) (oi := { dst := some 59, op := Op.move (Operand.tmp 9), type := 34, pos := "law.go:58", after := #[], guard := none }) (oL := { dst := some 17, op := Op.assign (Operand.tmp 65), type := 36, pos := "law.go:58", after := #[{ on := 9, ground := Ground.data }, { on := 10, ground := Ground.chain }, { on := 0, ground := Ground.phase }, { on := 1, ground := Ground.phase }, { on := 2, ground := Ground.phase }, { on := 3, ground := Ground.phase }, { on := 4, ground := Ground.phase }, { on := 5, ground := Ground.phase }, { on := 6, ground := Ground.phase }, { on := 7, ground := Ground.phase }, { on := 8, ground := Ground.phase }, { on := 9, ground := Ground.phase }, { on := 10, ground := Ground.phase }], guard := none }) (clo_grown _) rfl rfl rfl (by kernel_rfl) (by kernel_rfl) (by kernel_rfl) (by kernel_rfl) (by kernel_rfl) (fun _ _ _ h => h) (YG.val (by rfl) (fun _ _ => rfl)) ?_
    simp only [Act.put, List.setIfInBounds_toArray, List.set_cons_zero, List.set_cons_succ]
    refine wpX_take 3 (v := .slice a n c) (oi := { dst := some 60, op := Op.move (Operand.tmp 3), type := 34, pos := "law.go:58", after := #[], guard := none }) (oL := { dst := some 17, op := Op.assign (Operand.tmp 65), type := 36, pos := "law.go:58", after := #[{ on := 9, ground := Ground.data }, { on := 10, ground := Ground.chain }, { on := 0, ground := Ground.phase }, { on := 1, ground := Ground.phase }, { on := 2, ground := Ground.phase }, { on := 3, ground := Ground.phase }, { on := 4, ground := Ground.phase }, { on := 5, ground := Ground.phase }, { on := 6, ground := Ground.phase }, { on := 7, ground := Ground.phase }, { on := 8, ground := Ground.phase }, { on := 9, ground := Ground.phase }, { on := 10, ground := Ground.phase }], guard := none }) (clo_grown _) rfl rfl rfl (by kernel_rfl) (by kernel_rfl) (by kernel_rfl) (by kernel_rfl) (by kernel_rfl) (fun _ _ _ h => h) (YG.val (by rfl) (fun _ _ => rfl)) ?_
    simp only [Act.put, List.setIfInBounds_toArray, List.set_cons_zero, List.set_cons_succ]
    refine wpX_take 4 (v := .int .i64 (n : Int)) (oi := { dst := some 61, op := Op.call { callee := Callee.builtin Builtin.len, args := #[Operand.tmp 60], argTypes := #[34] }, type := 3, pos := "law.go:58", after := #[{ on := 3, ground := Ground.data }], guard := none }) (oL := { dst := some 17, op := Op.assign (Operand.tmp 65), type := 36, pos := "law.go:58", after := #[{ on := 9, ground := Ground.data }, { on := 10, ground := Ground.chain }, { on := 0, ground := Ground.phase }, { on := 1, ground := Ground.phase }, { on := 2, ground := Ground.phase }, { on := 3, ground := Ground.phase }, { on := 4, ground := Ground.phase }, { on := 5, ground := Ground.phase }, { on := 6, ground := Ground.phase }, { on := 7, ground := Ground.phase }, { on := 8, ground := Ground.phase }, { on := 9, ground := Ground.phase }, { on := 10, ground := Ground.phase }], guard := none }) (clo_grown _) rfl rfl rfl (by kernel_rfl) (by kernel_rfl) (by kernel_rfl) (by kernel_rfl) (by kernel_rfl) (fun _ _ _ h => h) (YG.val (by rfl) (fun _ _ => by go_simp)) ?_
    simp only [Act.put, List.setIfInBounds_toArray, List.set_cons_zero, List.set_cons_succ]
    refine wpX_take 5 (v := .slice (some ⟨gA, 0, none⟩) n cA) (oi := { dst := some 62, op := Op.slice 34 (Operand.tmp 59) none (some (Operand.tmp 61)) none, type := 34, pos := "law.go:58", after := #[{ on := 2, ground := Ground.data }, { on := 4, ground := Ground.data }], guard := none }) (oL := { dst := some 17, op := Op.assign (Operand.tmp 65), type := 36, pos := "law.go:58", after := #[{ on := 9, ground := Ground.data }, { on := 10, ground := Ground.chain }, { on := 0, ground := Ground.phase }, { on := 1, ground := Ground.phase }, { on := 2, ground := Ground.phase }, { on := 3, ground := Ground.phase }, { on := 4, ground := Ground.phase }, { on := 5, ground := Ground.phase }, { on := 6, ground := Ground.phase }, { on := 7, ground := Ground.phase }, { on := 8, ground := Ground.phase }, { on := 9, ground := Ground.phase }, { on := 10, ground := Ground.phase }], guard := none }) (clo_grown _) rfl rfl rfl (by kernel_rfl) (by kernel_rfl) (by kernel_rfl) (by kernel_rfl) (by kernel_rfl) (fun _ _ _ h => h) (YG.val (by rfl) (fun u _ => run_pre_op u _ (.tmp 59) (.tmp 61) rfl gA (n + 70) cA n rfl rfl (by omega))) ?_
    simp only [Act.put, List.setIfInBounds_toArray, List.set_cons_zero, List.set_cons_succ]
    refine wpX_step 6 (o := { dst := some 63, op := Op.call { callee := Callee.value (Operand.func 19), args := #[Operand.tmp 57, Operand.tmp 58, Operand.tmp 62], argTypes := #[27, 3, 34] }, type := 37, pos := "law.go:58", after := #[{ on := 0, ground := Ground.data }, { on := 1, ground := Ground.data }, { on := 5, ground := Ground.data }], guard := none }) rfl rfl (by kernel_rfl) (by rfl) (fun u2 hS2 K hK => ?_)
    have HK := Lib.hid hK
    have HS2 := Lib.hid hS2
    clear hK hS2
    refine wp_call_op (f := 19) (args := #[.agg (cellsB key), .int .i64 x, .slice (some ⟨gA, 0, none⟩) n cA]) (w1 := u2) (by go_simp) ((HAP.out _ _ u2 (by have h := (HFA.out.grown HS2.out).lies.take n; rw [lent_take l n HL.out] at h; exact h)).mono ?_)
    rintro e u3 ⟨a4, m4, c4, rfl, ho, hg⟩
    obtain rfl := ho.len
    refine ⟨_, rfl, HK.out (fun u => u3.grownBy u none) _ _ (World.grownBy.refl _ _) (fun u h => grownBy_trans (grownBy_trans HS2.out hg) h) (clo_grown u3) ?_⟩
    simp only [Act.put, List.setIfInBounds_toArray, List.set_cons_zero, List.set_cons_succ]
    refine wpX_take 7 (v := .tuple #[.slice a4 P.length c4, .int .i64 E2]) (oi := { dst := some 56, op := Op.move (Operand.tmp 63), type := 37, pos := "law.go:58", after := #[{ on := 6, ground := Ground.data }], guard := none }) (oL := { dst := some 17, op := Op.assign (Operand.tmp 65), type := 36, pos := "law.go:58", after := #[{ on := 9, ground := Ground.data }, { on := 10, ground := Ground.chain }, { on := 0, ground := Ground.phase }, { on := 1, ground := Ground.phase }, { on := 2, ground := Ground.phase }, { on := 3, ground := Ground.phase }, { on := 4, ground := Ground.phase }, { on := 5, ground := Ground.phase }, { on := 6, ground := Ground.phase }, { on := 7, ground := Ground.phase }, { on := 8, ground := Ground.phase }, { on := 9, ground := Ground.phase }, { on := 10, ground := Ground.phase }], guard := none }) (clo_grown _) rfl rfl rfl (by kernel_rfl) (by kernel_rfl) (by kernel_rfl) (by kernel_rfl) (by kernel_rfl) (fun _ _ _ h => h) (YG.val (by rfl) (fun _ _ => rfl)) ?_
    simp only [Act.put, List.setIfInBounds_toArray, List.set_cons_zero, List.set_cons_succ]
    refine wpX_take 8 (v := .slice a4 P.length c4) (oi := { dst := some 64, op := Op.extract (Operand.tmp 56) 0, type := 34, pos := "law.go:58", after := #[{ on := 7, ground := Ground.data }], guard := none }) (oL := { dst := some 17, op := Op.assign (Operand.tmp 65), type := 36, pos := "law.go:58", after := #[{ on := 9, ground := Ground.data }, { on := 10, ground := Ground.chain }, { on := 0, ground := Ground.phase }, { on := 1, ground := Ground.phase }, { on := 2, ground := Ground.phase }, { on := 3, ground := Ground.phase }, { on := 4, ground := Ground.phase }, { on := 5, ground := Ground.phase }, { on := 6, ground := Ground.phase }, { on := 7, ground := Ground.phase }, { on := 8, ground := Ground.phase }, { on := 9, ground := Ground.phase }, { on := 10, ground := Ground.phase }], guard := none }) (clo_grown _) rfl rfl rfl (by kernel_rfl) (by kernel_rfl) (by kernel_rfl) (by kernel_rfl) (by kernel_rfl) (fun _ _ _ h => h) (YG.val (by rfl) (fun _ _ => by go_simp)) ?_
    simp only [Act.put, List.setIfInBounds_toArray, List.set_cons_zero, List.set_cons_succ]
    refine wpX_take 9 (v := .int .i64 E2) (oi := { dst := some 65, op := Op.extract (Operand.tmp 56) 1, type := 36, pos := "law.go:58", after := #[{ on := 7, ground := Ground.data }, { on := 10, ground := Ground.gcOnly Departure.lateStores }], guard := none }) (oL := { dst := some 17, op := Op.assign (Operand.tmp 65), type := 36, pos := "law.go:58", after := #[{ on := 9, ground := Ground.data }, { on := 10, ground := Ground.chain }, { on := 0, ground := Ground.phase }, { on := 1, ground := Ground.phase }, { on := 2, ground := Ground.phase }, { on := 3, ground := Ground.phase }, { on := 4, ground := Ground.phase }, { on := 5, ground := Ground.phase }, { on := 6, ground := Ground.phase }, { on := 7, ground := Ground.phase }, { on := 8, ground := Ground.phase }, { on := 9, ground := Ground.phase }, { on := 10, ground := Ground.phase }], guard := none }) (clo_grown _) rfl rfl rfl (by kernel_rfl) (by kernel_rfl) (by kernel_rfl) (by kernel_rfl) (by kernel_rfl) (fun _ _ _ h => h) (YG.val (by rfl) (fun _ _ => by go_simp)) ?_
    simp only [Act.put, List.setIfInBounds_toArray, List.set_cons_zero, List.set_cons_succ]
    refine wpX_take 10 (v := .slice a4 P.length c4) (oi := { dst := some 16, op := Op.assign (Operand.tmp 64), type := 34, pos := "law.go:58", after := #[{ on := 8, ground := Ground.data }, { on := 6, ground := Ground.chain }, { on := 0, ground := Ground.phase }, { on := 1, ground := Ground.phase }, { on := 2, ground := Ground.phase }, { on := 3, ground := Ground.phase }, { on := 4, ground := Ground.phase }, { on := 5, ground := Ground.phase }, { on := 6, ground := Ground.phase }, { on := 7, ground := Ground.phase }, { on := 8, ground := Ground.phase }, { on := 9, ground := Ground.textOnly Departure.lateStores }], guard := none }) (oL := { dst := some 17, op := Op.assign (Operand.tmp 65), type := 36, pos := "law.go:58", after := #[{ on := 9, ground := Ground.data }, { on := 10, ground := Ground.chain }, { on := 0, ground := Ground.phase }, { on := 1, ground := Ground.phase }, { on := 2, ground := Ground.phase }, { on := 3, ground := Ground.phase }, { on := 4, ground := Ground.phase }, { on := 5, ground := Ground.phase }, { on := 6, ground := Ground.phase }, { on := 7, ground := Ground.phase }, { on := 8, ground := Ground.phase }, { on := 9, ground := Ground.phase }, { on := 10, ground := Ground.phase }], guard := none }) (clo_grown _) rfl rfl rfl (by kernel_rfl) (by kernel_rfl) (by kernel_rfl) (by kernel_rfl) (by kernel_rfl) (fun _ _ _ h => h) (YG.val (by rfl) (fun _ _ => rfl)) ?_
    simp only [Act.put, List.setIfInBounds_toArray, List.set_cons_zero, List.set_cons_succ]
    refine wpX_last (oL := { dst := some 17, op := Op.assign (Operand.tmp 65), type := 36, pos := "law.go:58", after := #[{ on := 9, ground := Ground.data }, { on := 10, ground := Ground.chain }, { on := 0, ground := Ground.phase }, { on := 1, ground := Ground.phase }, { on := 2, ground := Ground.phase }, { on := 3, ground := Ground.phase }, { on := 4, ground := Ground.phase }, { on := 5, ground := Ground.phase }, { on := 6, ground := Ground.phase }, { on := 7, ground := Ground.phase }, { on := 8, ground := Ground.phase }, { on := 9, ground := Ground.phase }, { on := 10, ground := Ground.phase }], guard := none }) rfl (by kernel_rfl) (by kernel_rfl) (by rfl) (fun u4 hS4 K4 hK4 => ?_)
    refine wp_val_op (v := .int .i64 E2) (w1 := u4) (rfl) (hK4 _ _ ?_)
    simp only [Act.put, List.setIfInBounds_toArray, List.set_cons_zero, List.set_cons_succ]
    obtain ⟨w6, hwn⟩ : ∃ w6, w6 = u4 := ⟨_, rfl⟩
    rw [← hwn] at hS4 ⊢
    have HX4 := Lib.hid ((BOwn.grown ho hS4).mono HS2.out.size)
    have g := grownBy_trans (grownBy_trans HS2.out hg) hS4
    clear hwn ho hg hS4 HS2 HK hK4
    have Z6 := Lib.hid g.size
    replace HG := Lib.hid (grownBy_trans HG.out g)
    replace HKY := Lib.hid (HKY.out.grown g)
    replace HFA := Lib.hid (HFA.out.grown g)
    replace HX1 := Lib.hid (HX1.out.grown g)
    replace HX2 := Lib.hid (HX2.out.grown g)
    replace HX3 := Lib.hid (HX3.out.grown g)
    clear g
    have WI4 := Lib.hid (BOwn.within HX4.out)
    go_wp2_with fail
    refine (kept_yes _ _ _ _ n _ l _ (BOwn.lies HFA.out) (HA.out.grown HG.out) HL.out rfl (by omega)).mono ?_
    rintro e w7 ⟨rfl, g⟩
    have Z7 := Lib.hid g.size
    replace HG := Lib.hid (grownBy_trans HG.out g)
    replace HKY := Lib.hid (HKY.out.grown g)
    replace HFA := Lib.hid (HFA.out.grown g)
    replace HX1 := Lib.hid (HX1.out.grown g)
    replace HX2 := Lib.hid (HX2.out.grown g)
    replace HX3 := Lib.hid (HX3.out.grown g)
    replace HX4 := Lib.hid (HX4.out.grown g)
    clear g
    go_wp2_with fail
    refine (over_n _ gA cA (n + 70) (lent l) _ HFA.out (by omega)).mono ?_
    rintro e w8 ⟨rfl, oO, g⟩
    have Z8 := Lib.hid g.size
    replace HG := Lib.hid (grownBy_old HG.out g (Nat.le_trans HW1.out YgA.out.1))
    replace HKY := Lib.hid (HKY.out.grownNe g (fun e => by have h1 := HKL.out; have h2 := YgA.out; omega))
    replace HX1 : Hid (BOwn w8 w2.heap.size a1 S.length c1 S) := Lib.hid (Own.grownNe HX1.out g (fun q hc hq hr => by
      obtain ⟨g', e1, h1, _⟩ := Own.block HX1.out hc
      rw [hq] at e1; injection e1 with e1; injection e1 with e1; injection hr with hr
      have h2 := YgA.out
      have z2 := Z2.out; have z3 := Z3.out; have z4 := Z4.out; have z5 := Z5.out
      omega))
    replace HX2 : Hid (BOwn w8 w3.heap.size a2 S.length c2 S) := Lib.hid (Own.grownNe HX2.out g (fun q hc hq hr => by
      obtain ⟨g', e1, h1, _⟩ := Own.block HX2.out hc
      rw [hq] at e1; injection e1 with e1; injection e1 with e1; injection hr with hr
      have h2 := YgA.out
      have z2 := Z2.out; have z3 := Z3.out; have z4 := Z4.out; have z5 := Z5.out
      omega))
    replace HX3 : Hid (BOwn w8 w4.heap.size a3 P.length c3 P) := Lib.hid (Own.grownNe HX3.out g (fun q hc hq hr => by
      obtain ⟨g', e1, h1, _⟩ := Own.block HX3.out hc
      rw [hq] at e1; injection e1 with e1; injection e1 with e1; injection hr with hr
      have h2 := YgA.out
      have z2 := Z2.out; have z3 := Z3.out; have z4 := Z4.out; have z5 := Z5.out
      omega))
    replace HX4 : Hid (BOwn w8 w5.heap.size a4 P.length c4 P) := Lib.hid (Own.grownNe HX4.out g (fun q hc hq hr => by
      obtain ⟨g', e1, h1, _⟩ := Own.block HX4.out hc
      rw [hq] at e1; injection e1 with e1; injection e1 with e1; injection hr with hr
      have h2 := YgA.out
      have z2 := Z2.out; have z3 := Z3.out; have z4 := Z4.out; have z5 := Z5.out
      omega))
    clear oO g HFA
    go_upto_region 14 with (first
      | (refine wpList_load_row rfl 27 _ rfl w.heap.size rfl 27 (cellsB key) (0, 0) _ HKY.out Try.underlying27 rfl (by rw [cellsB_size, hkl]; kernel_rfl) ?_)
      | (go_at_call 22; refine (HRS.out _).mono ?_; rintro e w9 ⟨a5, n5, c5, rfl, ho, g⟩; obtain rfl := ho.len; have HX5 := Lib.hid ho; clear ho))
    have Z9 := Lib.hid g.size
    replace HG := Lib.hid (grownBy_trans HG.out g)
    replace HKY := Lib.hid (HKY.out.grown g)
    replace HX1 := Lib.hid (HX1.out.grown g)
    replace HX2 := Lib.hid (HX2.out.grown g)
    replace HX3 := Lib.hid (HX3.out.grown g)
    replace HX4 := Lib.hid (HX4.out.grown g)
    clear g
    go_upto_region 15 with (first
      | (refine wpList_load_row rfl 27 _ rfl w.heap.size rfl 27 (cellsB key) (0, 0) _ HKY.out Try.underlying27 rfl (by rw [cellsB_size, hkl]; kernel_rfl) ?_)
      | (go_at_call 23; refine (HRA.out _ _ _ (HA.out.grown HG.out)).mono ?_; rintro e w10 ⟨a6, n6, c6, rfl, ho, g⟩; obtain rfl := ho.len; have HX6 := Lib.hid ho; clear ho))
    have Z10 := Lib.hid g.size
    replace HG := Lib.hid (grownBy_trans HG.out g)
    replace HKY := Lib.hid (HKY.out.grown g)
    replace HX1 := Lib.hid (HX1.out.grown g)
    replace HX2 := Lib.hid (HX2.out.grown g)
    replace HX3 := Lib.hid (HX3.out.grown g)
    replace HX4 := Lib.hid (HX4.out.grown g)
    replace HX5 := Lib.hid (HX5.out.grown g)
    clear g
    go_wp2_with fail
    refine (same_yes _ _ _ _ _ _ S _ (BOwn.lies HX1.out) (BOwn.lies HX5.out) rfl rfl (Nat.le_trans HBS.out (by decide))).mono ?_
    rintro e w11 ⟨rfl, q, hq⟩
    have g := drewg hq
    clear hq q
    have Z11 := Lib.hid g.size
    replace HG := Lib.hid (grownBy_trans HG.out g)
    replace HKY := Lib.hid (HKY.out.grown g)
    replace HX1 := Lib.hid (HX1.out.grown g)
    replace HX2 := Lib.hid (HX2.out.grown g)
    replace HX3 := Lib.hid (HX3.out.grown g)
    replace HX4 := Lib.hid (HX4.out.grown g)
    replace HX5 := Lib.hid (HX5.out.grown g)
    replace HX6 := Lib.hid (HX6.out.grown g)
    clear g
    go_wp2_with fail
    refine (same_yes _ _ _ _ _ _ S _ (BOwn.lies HX2.out) (BOwn.lies HX5.out) rfl rfl (Nat.le_trans HBS.out (by decide))).mono ?_
    rintro e w12 ⟨rfl, q, hq⟩
    have g := drewg hq
    clear hq q
    have Z12 := Lib.hid g.size
    replace HG := Lib.hid (grownBy_trans HG.out g)
    replace HKY := Lib.hid (HKY.out.grown g)
    replace HX1 := Lib.hid (HX1.out.grown g)
    replace HX2 := Lib.hid (HX2.out.grown g)
    replace HX3 := Lib.hid (HX3.out.grown g)
    replace HX4 := Lib.hid (HX4.out.grown g)
    replace HX5 := Lib.hid (HX5.out.grown g)
    replace HX6 := Lib.hid (HX6.out.grown g)
    clear g
    go_wp2_with fail
    refine (same_yes _ _ _ _ _ _ P _ (BOwn.lies HX3.out) (BOwn.lies HX6.out) rfl rfl (Nat.le_trans HBP.out (by decide))).mono ?_
    rintro e w13 ⟨rfl, q, hq⟩
    have g := drewg hq
    clear hq q
    have Z13 := Lib.hid g.size
    replace HG := Lib.hid (grownBy_trans HG.out g)
    replace HKY := Lib.hid (HKY.out.grown g)
    replace HX1 := Lib.hid (HX1.out.grown g)
    replace HX2 := Lib.hid (HX2.out.grown g)
    replace HX3 := Lib.hid (HX3.out.grown g)
    replace HX4 := Lib.hid (HX4.out.grown g)
    replace HX5 := Lib.hid (HX5.out.grown g)
    replace HX6 := Lib.hid (HX6.out.grown g)
    clear g
    go_wp2_with fail
    refine (same_yes _ _ _ _ _ _ P _ (BOwn.lies HX4.out) (BOwn.lies HX6.out) rfl rfl (Nat.le_trans HBP.out (by decide))).mono ?_
    rintro e w14 ⟨rfl, q, hq⟩
    have g := drewg hq
    clear hq q
    have Z14 := Lib.hid g.size
    replace HG := Lib.hid (grownBy_trans HG.out g)
    replace HKY := Lib.hid (HKY.out.grown g)
    replace HX1 := Lib.hid (HX1.out.grown g)
    replace HX2 := Lib.hid (HX2.out.grown g)
    replace HX3 := Lib.hid (HX3.out.grown g)
    replace HX4 := Lib.hid (HX4.out.grown g)
    replace HX5 := Lib.hid (HX5.out.grown g)
    replace HX6 := Lib.hid (HX6.out.grown g)
    clear g
    go_wp2_with fail
    have zr : w.heap.size ≤ w14.heap.size := HG.out.size
    have zw := HW1.out
    have z2 := Z2.out
    have z3 := Z3.out
    have z4 := Z4.out
    have z5 := Z5.out
    have z6 := Z6.out
    have z7 := Z7.out
    have z8 := Z8.out
    have z9 := Z9.out
    have z10 := Z10.out
    have z11 := Z11.out
    have z12 := Z12.out
    have z13 := Z13.out
    have z14 := Z14.out
    have hst := st1_lit (w := w14) (base := w.heap.size) (L := [⟨a1, S.length, c1⟩, ⟨a2, S.length, c2⟩, ⟨a3, P.length, c3⟩, ⟨a4, P.length, c4⟩])
      (fun j hj => match j, hj with
        | 0, _ => ⟨_, HX1.out.mono (by omega)⟩
        | 1, _ => ⟨_, HX2.out.mono (by omega)⟩
        | 2, _ => ⟨_, HX3.out.mono (by omega)⟩
        | 3, _ => ⟨_, HX4.out.mono (by omega)⟩) zr 4 rfl (by decide)
    have hd : Distinct [⟨a1, S.length, c1⟩, ⟨a2, S.length, c2⟩, ⟨a3, P.length, c3⟩, ⟨a4, P.length, c4⟩] := by
      apply distinct_pairs
      simp only [List.pairwise_cons, List.mem_cons, List.not_mem_nil, or_false, forall_eq_or_imp, forall_eq, List.Pairwise.nil, and_true, false_implies, implies_true]
      exact ⟨⟨Sl.off_win WI1.out WI2.out (by omega), Sl.off_win WI1.out WI3.out (by omega), Sl.off_win WI1.out WI4.out (by omega)⟩, ⟨Sl.off_win WI2.out WI3.out (by omega), Sl.off_win WI2.out WI4.out (by omega)⟩, Sl.off_win WI3.out WI4.out (by omega)⟩
    refine (apart_n _ _ _ 4 _ _ hst (by simp; omega) hd rfl (by omega) (fun j hj => match j, hj with
        | 0, _ => (by show S.length ≤ 100000000; have := HBS.out; omega)
        | 1, _ => (by show S.length ≤ 100000000; have := HBS.out; omega)
        | 2, _ => (by show P.length ≤ 100000000; have := HBP.out; omega)
        | 3, _ => (by show P.length ≤ 100000000; have := HBP.out; omega))).mono ?_
    rintro e wz ⟨rfl, hbel⟩
    have GZ := Lib.hid (grown_below (grownBy_trans HG.out (World.grownBy_alloc w14 (.cells (([⟨a1, S.length, c1⟩, ⟨a2, S.length, c2⟩, ⟨a3, P.length, c3⟩, ⟨a4, P.length, c4⟩] : List Sl).map Sl.val).toArray 34) none)) hbel (Nat.le_refl _))
    clear hbel hd hst
    go_wp2_with fail
    go_ret
    exact ⟨rfl, GZ.out⟩
  · have hd3 : decide ((3000 : Int) < y) = false := decide_eq_false hym
    have hst := fun u => stream_n key hkl x y (by omega) u
    have hrs := fun u => refStream_n key hkl x y (by omega) u
    have hap := fun (a : Option Addr) (c : Nat) (u : World) (h : BLies u a l) => apply_n key hkl x a n c l HL.out (by omega) u h
    have hra := fun (a : Option Addr) (c : Nat) (u : World) (h : BLies u a l) => refApply_n key hkl x a n c l HL.out (by omega) u h
    have hbs : (stL key x y).length ≤ 6000 := stL_le key x y 6000 (by omega)
    have hbp : (apL key x l).length ≤ 3000 := Nat.le_trans (apL_le key x l) (by rw [HL.out]; omega)
    generalize stE x y = E1 at hst hrs
    generalize stE x (n : Int) = E2 at hap hra
    generalize stL key x y = S at hst hrs hbs
    generalize apL key x l = P at hap hra hbp
    unfold aggB at hst hrs hap hra
    have HST := Lib.hid hst
    have HRS := Lib.hid hrs
    have HAP := Lib.hid hap
    have HRA := Lib.hid hra
    have HBS := Lib.hid hbs
    have HBP := Lib.hid hbp
    clear hst hrs hap hra hbs hbp
    go_upto_region 5 with fail
    clear hd1 hd2 hd3
    go_wp2_with fail
    refine (lent_n _ _ _ l _ (HA.out.grown HG.out) HL.out (by omega)).mono ?_
    rintro e w2 ⟨gA, cA, rfl, oF, g⟩
    have hcA := oF.cap.1
    have YgA : Hid (w1.heap.size ≤ gA ∧ gA < w2.heap.size) := Lib.hid (by obtain ⟨g', e, h1, h2⟩ := Own.block oF (by omega); injection e with e; injection e with e; subst e; exact ⟨h1, h2⟩)
    have HFA := Lib.hid oF
    clear oF
    have Z2 := Lib.hid g.size
    replace HG := Lib.hid (grownBy_trans HG.out g)
    replace HKY := Lib.hid (HKY.out.grown g)
    clear g
    go_upto_region 7 with (first
      | (refine wpList_load_row rfl 27 _ rfl w.heap.size rfl 27 (cellsB key) (0, 0) _ HKY.out Try.underlying27 rfl (by rw [cellsB_size, hkl]; kernel_rfl) ?_)
      | (go_at_call 18; refine (HST.out _).mono ?_; rintro e w3 ⟨a1, n1, c1, rfl, ho, g⟩; obtain rfl := ho.len; have HX1 := Lib.hid ho; have WI1 := Lib.hid (BOwn.within ho); clear ho))
    have Z3 := Lib.hid g.size
    replace HG := Lib.hid (grownBy_trans HG.out g)
    replace HKY := Lib.hid (HKY.out.grown g)
    replace HFA := Lib.hid (HFA.out.grown g)
    clear g
    go_upto_region 8 with (first
      | (refine wpList_load_row rfl 27 _ rfl w.heap.size rfl 27 (cellsB key) (0, 0) _ HKY.out Try.underlying27 rfl (by rw [cellsB_size, hkl]; kernel_rfl) ?_)
      | (go_at_call 18; refine (HST.out _).mono ?_; rintro e w4 ⟨a2, n2, c2, rfl, ho, g⟩; obtain rfl := ho.len; have HX2 := Lib.hid ho; have WI2 := Lib.hid (BOwn.within ho); clear ho))
    have Z4 := Lib.hid g.size
    replace HG := Lib.hid (grownBy_trans HG.out g)
    replace HKY := Lib.hid (HKY.out.grown g)
    replace HFA := Lib.hid (HFA.out.grown g)
    replace HX1 := Lib.hid (HX1.out.grown g)
    clear g
    refine wp_regionX (fun u => w4.grownBy u none) 11 (by kernel_rfl) (grownBy_drewN w4 1 none) ?_
    refine wpX_take 0 (v := .agg (cellsB key)) (oi := { dst := some 47, op := Op.load 27 (Operand.tmp 4), type := 27, pos := "law.go:57", after := #[], guard := none }) (oL := { dst := some 15, op := Op.assign (Operand.tmp 55), type := 36, pos := "law.go:57", after := #[{ on := 9, ground := Ground.data }, { on := 10, ground := Ground.chain }, { on := 0, ground := Ground.phase }, { on := 1, ground := Ground.phase }, { on := 2, ground := Ground.phase }, { on := 3, ground := Ground.phase }, { on := 4, ground := Ground.phase }, { on := 5, ground := Ground.phase }, { on := 6, ground := Ground.phase }, { on := 7, ground := Ground.phase }, { on := 8, ground := Ground.phase }, { on := 9, ground := Ground.phase }, { on := 10, ground := Ground.phase }], guard := none }) (clo_grown _) rfl rfl rfl (by kernel_rfl) (by kernel_rfl) (by kernel_rfl) (by kernel_rfl) (by kernel_rfl) (fun _ _ _ h => h) (YG.val (by rfl) (fun u hu => run_load_op u _ 27 (.tmp 4) rfl w.heap.size rfl 27 (cellsB key) (HKY.out.grown hu) Try.underlying27 rfl (by rw [cellsB_size, hkl]; kernel_rfl))) ?_
    simp only [Act.put, List.setIfInBounds_toArray, List.set_cons_zero, List.set_cons_succ]
    refine wpX_take 1 (v := .int .i64 x) (oi := { dst := some 48, op := Op.move (Operand.tmp 1), type := 3, pos := "law.go:57", after := #[], guard := none }) (oL := { dst := some 15, op := Op.assign (Operand.tmp 55), type := 36, pos := "law.go:57", after := #[{ on := 9, ground := Ground.data }, { on := 10, ground := Ground.chain }, { on := 0, ground := Ground.phase }, { on := 1, ground := Ground.phase }, { on := 2, ground := Ground.phase }, { on := 3, ground := Ground.phase }, { on := 4, ground := Ground.phase }, { on := 5, ground := Ground.phase }, { on := 6, ground := Ground.phase }, { on := 7, ground := Ground.phase }, { on := 8, ground := Ground.phase }, { on := 9, ground := Ground.phase }, { on := 10, ground := Ground.phase }], guard := none }) (clo_grown _) rfl rfl rfl (by kernel_rfl) (by kernel_rfl) (by kernel_rfl) (by kernel_rfl) (by kernel_rfl) (fun _ _ _ h => h) (YG.val (by rfl) (fun _ _ => rfl)) ?_
    simp only [Act.put, List.setIfInBounds_toArray, List.set_cons_zero, List.set_cons_succ]
    refine wpX_take 2 (v := .slice (some ⟨gA, 0, none⟩) (n + 70) cA) (oi := { dst := some 49, op := Op.move (Operand.tmp 9), type := 34, pos := "law.go:57", after := #[], guard := none }) (oL := { dst := some 15, op := Op.assign (Operand.tmp 55), type := 36, pos := "law.go:57", after := #[{ on := 9, ground := Ground.data }, { on := 10, ground := Ground.chain }, { on := 0, ground := Ground.phase }, { on := 1, ground := Ground.phase }, { on := 2, ground := Ground.phase }, { on := 3, ground := Ground.phase }, { on := 4, ground := Ground.phase }, { on := 5, ground := Ground.phase }, { on := 6, ground := Ground.phase }, { on := 7, ground := Ground.phase }, { on := 8, ground := Ground.phase }, { on := 9, ground := Ground.phase }, { on := 10, ground := Ground.phase }], guard := none }) (clo_grown _) rfl rfl rfl (by kernel_rfl) (by kernel_rfl) (by kernel_rfl) (by kernel_rfl) (by kernel_rfl) (fun _ _ _ h => h) (YG.val (by rfl) (fun _ _ => rfl)) ?_
    simp only [Act.put, List.setIfInBounds_toArray, List.set_cons_zero, List.set_cons_succ]
    refine wpX_take 3 (v := .slice a n c) (oi := { dst := some 50, op := Op.move (Operand.tmp 3), type := 34, pos := "law.go:57", after := #[], guard := none }) (oL := { dst := some 15, op := Op.assign (Operand.tmp 55), type := 36, pos := "law.go:57", after := #[{ on := 9, ground := Ground.data }, { on := 10, ground := Ground.chain }, { on := 0, ground := Ground.phase }, { on := 1, ground := Ground.phase }, { on := 2, ground := Ground.phase }, { on := 3, ground := Ground.phase }, { on := 4, ground := Ground.phase }, { on := 5, ground := Ground.phase }, { on := 6, ground := Ground.phase }, { on := 7, ground := Ground.phase }, { on := 8, ground := Ground.phase }, { on := 9, ground := Ground.phase }, { on := 10, ground := Ground.phase }], guard := none }) (clo_grown _) rfl rfl rfl (by kernel_rfl) (by kernel_rfl) (by kernel_rfl) (by kernel_rfl) (by kernel_rfl) (fun _ _ _ h => h) (YG.val (by rfl) (fun _ _ => rfl)) ?_
    simp only [Act.put, List.setIfInBounds_toArray, List.set_cons_zero, List.set_cons_succ]
    refine wpX_take 4 (v := .int .i64 (n : Int)) (oi := { dst := some 51, op := Op.call { callee := Callee.builtin Builtin.len, args := #[Operand.tmp 50], argTypes := #[34] }, type := 3, pos := "law.go:57", after := #[{ on := 3, ground := Ground.data }], guard := none }) (oL := { dst := some 15, op := Op.assign (Operand.tmp 55), type := 36, pos := "law.go:57", after := #[{ on := 9, ground := Ground.data }, { on := 10, ground := Ground.chain }, { on := 0, ground := Ground.phase }, { on := 1, ground := Ground.phase }, { on := 2, ground := Ground.phase }, { on := 3, ground := Ground.phase }, { on := 4, ground := Ground.phase }, { on := 5, ground := Ground.phase }, { on := 6, ground := Ground.phase }, { on := 7, ground := Ground.phase }, { on := 8, ground := Ground.phase }, { on := 9, ground := Ground.phase }, { on := 10, ground := Ground.phase }], guard := none }) (clo_grown _) rfl rfl rfl (by kernel_rfl) (by kernel_rfl) (by kernel_rfl) (by kernel_rfl) (by kernel_rfl) (fun _ _ _ h => h) (YG.val (by rfl) (fun _ _ => by go_simp)) ?_
    simp only [Act.put, List.setIfInBounds_toArray, List.set_cons_zero, List.set_cons_succ]
    refine wpX_take 5 (v := .slice (some ⟨gA, 0, none⟩) n cA) (oi := { dst := some 52, op := Op.slice 34 (Operand.tmp 49) none (some (Operand.tmp 51)) none, type := 34, pos := "law.go:57", after := #[{ on := 2, ground := Ground.data }, { on := 4, ground := Ground.data }], guard := none }) (oL := { dst := some 15, op := Op.assign (Operand.tmp 55), type := 36, pos := "law.go:57", after := #[{ on := 9, ground := Ground.data }, { on := 10, ground := Ground.chain }, { on := 0, ground := Ground.phase }, { on := 1, ground := Ground.phase }, { on := 2, ground := Ground.phase }, { on := 3, ground := Ground.phase }, { on := 4, ground := Ground.phase }, { on := 5, ground := Ground.phase }, { on := 6, ground := Ground.phase }, { on := 7, ground := Ground.phase }, { on := 8, ground := Ground.phase }, { on := 9, ground := Ground.phase }, { on := 10, ground := Ground.phase }], guard := none }) (clo_grown _) rfl rfl rfl (by kernel_rfl) (by kernel_rfl) (by kernel_rfl) (by kernel_rfl) (by kernel_rfl) (fun _ _ _ h => h) (YG.val (by rfl) (fun u _ => run_pre_op u _ (.tmp 49) (.tmp 51) rfl gA (n + 70) cA n rfl rfl (by omega))) ?_
    simp only [Act.put, List.setIfInBounds_toArray, List.set_cons_zero, List.set_cons_succ]
    refine wpX_step 6 (o := { dst := some 53, op := Op.call { callee := Callee.value (Operand.func 19), args := #[Operand.tmp 47, Operand.tmp 48, Operand.tmp 52], argTypes := #[27, 3, 34] }, type := 37, pos := "law.go:57", after := #[{ on := 0, ground := Ground.data }, { on := 1, ground := Ground.data }, { on := 5, ground := Ground.data }], guard := none }) rfl rfl (by kernel_rfl) (by rfl) (fun u2 hS2 K hK => ?_)
    have HK := Lib.hid hK
    have HS2 := Lib.hid hS2
    clear hK hS2
    refine wp_call_op (f := 19) (args := #[.agg (cellsB key), .int .i64 x, .slice (some ⟨gA, 0, none⟩) n cA]) (w1 := u2) (by go_simp) ((HAP.out _ _ u2 (by have h := (HFA.out.grown HS2.out).lies.take n; rw [lent_take l n HL.out] at h; exact h)).mono ?_)
    rintro e u3 ⟨a3, m3, c3, rfl, ho, hg⟩
    obtain rfl := ho.len
    refine ⟨_, rfl, HK.out (fun u => u3.grownBy u none) _ _ (World.grownBy.refl _ _) (fun u h => grownBy_trans (grownBy_trans HS2.out hg) h) (clo_grown u3) ?_⟩
    simp only [Act.put, List.setIfInBounds_toArray, List.set_cons_zero, List.set_cons_succ]
    refine wpX_take 7 (v := .tuple #[.slice a3 P.length c3, .int .i64 E2]) (oi := { dst := some 46, op := Op.move (Operand.tmp 53), type := 37, pos := "law.go:57", after := #[{ on := 6, ground := Ground.data }], guard := none }) (oL := { dst := some 15, op := Op.assign (Operand.tmp 55), type := 36, pos := "law.go:57", after := #[{ on := 9, ground := Ground.data }, { on := 10, ground := Ground.chain }, { on := 0, ground := Ground.phase }, { on := 1, ground := Ground.phase }, { on := 2, ground := Ground.phase }, { on := 3, ground := Ground.phase }, { on := 4, ground := Ground.phase }, { on := 5, ground := Ground.phase }, { on := 6, ground := Ground.phase }, { on := 7, ground := Ground.phase }, { on := 8, ground := Ground.phase }, { on := 9, ground := Ground.phase }, { on := 10, ground := Ground.phase }], guard := none }) (clo_grown _) rfl rfl rfl (by kernel_rfl) (by kernel_rfl) (by kernel_rfl) (by kernel_rfl) (by kernel_rfl) (fun _ _ _ h => h) (YG.val (by rfl) (fun _ _ => rfl)) ?_
    simp only [Act.put, List.setIfInBounds_toArray, List.set_cons_zero, List.set_cons_succ]
    refine wpX_take 8 (v := .slice a3 P.length c3) (oi := { dst := some 54, op := Op.extract (Operand.tmp 46) 0, type := 34, pos := "law.go:57", after := #[{ on := 7, ground := Ground.data }], guard := none }) (oL := { dst := some 15, op := Op.assign (Operand.tmp 55), type := 36, pos := "law.go:57", after := #[{ on := 9, ground := Ground.data }, { on := 10, ground := Ground.chain }, { on := 0, ground := Ground.phase }, { on := 1, ground := Ground.phase }, { on := 2, ground := Ground.phase }, { on := 3, ground := Ground.phase }, { on := 4, ground := Ground.phase }, { on := 5, ground := Ground.phase }, { on := 6, ground := Ground.phase }, { on := 7, ground := Ground.phase }, { on := 8, ground := Ground.phase }, { on := 9, ground := Ground.phase }, { on := 10, ground := Ground.phase }], guard := none }) (clo_grown _) rfl rfl rfl (by kernel_rfl) (by kernel_rfl) (by kernel_rfl) (by kernel_rfl) (by kernel_rfl) (fun _ _ _ h => h) (YG.val (by rfl) (fun _ _ => by go_simp)) ?_
    simp only [Act.put, List.setIfInBounds_toArray, List.set_cons_zero, List.set_cons_succ]
    refine wpX_take 9 (v := .int .i64 E2) (oi := { dst := some 55, op := Op.extract (Operand.tmp 46) 1, type := 36, pos := "law.go:57", after := #[{ on := 7, ground := Ground.data }, { on := 10, ground := Ground.gcOnly Departure.lateStores }], guard := none }) (oL := { dst := some 15, op := Op.assign (Operand.tmp 55), type := 36, pos := "law.go:57", after := #[{ on := 9, ground := Ground.data }, { on := 10, ground := Ground.chain }, { on := 0, ground := Ground.phase }, { on := 1, ground := Ground.phase }, { on := 2, ground := Ground.phase }, { on := 3, ground := Ground.phase }, { on := 4, ground := Ground.phase }, { on := 5, ground := Ground.phase }, { on := 6, ground := Ground.phase }, { on := 7, ground := Ground.phase }, { on := 8, ground := Ground.phase }, { on := 9, ground := Ground.phase }, { on := 10, ground := Ground.phase }], guard := none }) (clo_grown _) rfl rfl rfl (by kernel_rfl) (by kernel_rfl) (by kernel_rfl) (by kernel_rfl) (by kernel_rfl) (fun _ _ _ h => h) (YG.val (by rfl) (fun _ _ => by go_simp)) ?_
    simp only [Act.put, List.setIfInBounds_toArray, List.set_cons_zero, List.set_cons_succ]
    refine wpX_take 10 (v := .slice a3 P.length c3) (oi := { dst := some 14, op := Op.assign (Operand.tmp 54), type := 34, pos := "law.go:57", after := #[{ on := 8, ground := Ground.data }, { on := 6, ground := Ground.chain }, { on := 0, ground := Ground.phase }, { on := 1, ground := Ground.phase }, { on := 2, ground := Ground.phase }, { on := 3, ground := Ground.phase }, { on := 4, ground := Ground.phase }, { on := 5, ground := Ground.phase }, { on := 6, ground := Ground.phase }, { on := 7, ground := Ground.phase }, { on := 8, ground := Ground.phase }, { on := 9, ground := Ground.textOnly Departure.lateStores }], guard := none }) (oL := { dst := some 15, op := Op.assign (Operand.tmp 55), type := 36, pos := "law.go:57", after := #[{ on := 9, ground := Ground.data }, { on := 10, ground := Ground.chain }, { on := 0, ground := Ground.phase }, { on := 1, ground := Ground.phase }, { on := 2, ground := Ground.phase }, { on := 3, ground := Ground.phase }, { on := 4, ground := Ground.phase }, { on := 5, ground := Ground.phase }, { on := 6, ground := Ground.phase }, { on := 7, ground := Ground.phase }, { on := 8, ground := Ground.phase }, { on := 9, ground := Ground.phase }, { on := 10, ground := Ground.phase }], guard := none }) (clo_grown _) rfl rfl rfl (by kernel_rfl) (by kernel_rfl) (by kernel_rfl) (by kernel_rfl) (by kernel_rfl) (fun _ _ _ h => h) (YG.val (by rfl) (fun _ _ => rfl)) ?_
    simp only [Act.put, List.setIfInBounds_toArray, List.set_cons_zero, List.set_cons_succ]
    refine wpX_last (oL := { dst := some 15, op := Op.assign (Operand.tmp 55), type := 36, pos := "law.go:57", after := #[{ on := 9, ground := Ground.data }, { on := 10, ground := Ground.chain }, { on := 0, ground := Ground.phase }, { on := 1, ground := Ground.phase }, { on := 2, ground := Ground.phase }, { on := 3, ground := Ground.phase }, { on := 4, ground := Ground.phase }, { on := 5, ground := Ground.phase }, { on := 6, ground := Ground.phase }, { on := 7, ground := Ground.phase }, { on := 8, ground := Ground.phase }, { on := 9, ground := Ground.phase }, { on := 10, ground := Ground.phase }], guard := none }) rfl (by kernel_rfl) (by kernel_rfl) (by rfl) (fun u4 hS4 K4 hK4 => ?_)
    refine wp_val_op (v := .int .i64 E2) (w1 := u4) (rfl) (hK4 _ _ ?_)
    simp only [Act.put, List.setIfInBounds_toArray, List.set_cons_zero, List.set_cons_succ]
    obtain ⟨w5, hwn⟩ : ∃ w5, w5 = u4 := ⟨_, rfl⟩
    rw [← hwn] at hS4 ⊢
    have HX3 := Lib.hid ((BOwn.grown ho hS4).mono HS2.out.size)
    have g := grownBy_trans (grownBy_trans HS2.out hg) hS4
    clear hwn ho hg hS4 HS2 HK hK4
    have Z5 := Lib.hid g.size
    replace HG := Lib.hid (grownBy_trans HG.out g)
    replace HKY := Lib.hid (HKY.out.grown g)
    replace HFA := Lib.hid (HFA.out.grown g)
    replace HX1 := Lib.hid (HX1.out.grown g)
    replace HX2 := Lib.hid (HX2.out.grown g)
    clear g
    have WI3 := Lib.hid (BOwn.within HX3.out)
    go_upto_region 9 with fail
    refine wp_regionX (fun u => w5.grownBy u none) 11 (by kernel_rfl) (grownBy_drewN w5 1 none) ?_
    refine wpX_take 0 (v := .agg (cellsB key)) (oi := { dst := some 57, op := Op.load 27 (Operand.tmp 4), type := 27, pos := "law.go:58", after := #[], guard := none }) (oL := { dst := some 17, op := Op.assign (Operand.tmp 65), type := 36, pos := "law.go:58", after := #[{ on := 9, ground := Ground.data }, { on := 10, ground := Ground.chain }, { on := 0, ground := Ground.phase }, { on := 1, ground := Ground.phase }, { on := 2, ground := Ground.phase }, { on := 3, ground := Ground.phase }, { on := 4, ground := Ground.phase }, { on := 5, ground := Ground.phase }, { on := 6, ground := Ground.phase }, { on := 7, ground := Ground.phase }, { on := 8, ground := Ground.phase }, { on := 9, ground := Ground.phase }, { on := 10, ground := Ground.phase }], guard := none }) (clo_grown _) rfl rfl rfl (by kernel_rfl) (by kernel_rfl) (by kernel_rfl) (by kernel_rfl) (by kernel_rfl) (fun _ _ _ h => h) (YG.val (by rfl) (fun u hu => run_load_op u _ 27 (.tmp 4) rfl w.heap.size rfl 27 (cellsB key) (HKY.out.grown hu) Try.underlying27 rfl (by rw [cellsB_size, hkl]; kernel_rfl))) ?_
    simp only [Act.put, List.setIfInBounds_toArray, List.set_cons_zero, List.set_cons_succ]
    refine wpX_take 1 (v := .int .i64 x) (oi := { dst := some 58, op := Op.move (Operand.tmp 1), type := 3, pos := "law.go:58", after := #[], guard := none }) (oL := { dst := some 17, op := Op.assign (Operand.tmp 65), type := 36, pos := "law.go:58", after := #[{ on := 9, ground := Ground.data }, { on := 10, ground := Ground.chain }, { on := 0, ground := Ground.phase }, { on := 1, ground := Ground.phase }, { on := 2, ground := Ground.phase }, { on := 3, ground := Ground.phase }, { on := 4, ground := Ground.phase }, { on := 5, ground := Ground.phase }, { on := 6, ground := Ground.phase }, { on := 7, ground := Ground.phase }, { on := 8, ground := Ground.phase }, { on := 9, ground := Ground.phase }, { on := 10, ground := Ground.phase }], guard := none }) (clo_grown _) rfl rfl rfl (by kernel_rfl) (by kernel_rfl) (by kernel_rfl) (by kernel_rfl) (by kernel_rfl) (fun _ _ _ h => h) (YG.val (by rfl) (fun _ _ => rfl)) ?_
    simp only [Act.put, List.setIfInBounds_toArray, List.set_cons_zero, List.set_cons_succ]
    refine wpX_take 2 (v := .slice (some ⟨gA, 0, none⟩) (n + 70) cA) (oi := { dst := some 59, op := Op.move (Operand.tmp 9), type := 34, pos := "law.go:58", after := #[], guard := none }) (oL := { dst := some 17, op := Op.assign (Operand.tmp 65), type := 36, pos := "law.go:58", after := #[{ on := 9, ground := Ground.data }, { on := 10, ground := Ground.chain }, { on := 0, ground := Ground.phase }, { on := 1, ground := Ground.phase }, { on := 2, ground := Ground.phase }, { on := 3, ground := Ground.phase }, { on := 4, ground := Ground.phase }, { on := 5, ground := Ground.phase }, { on := 6, ground := Ground.phase }, { on := 7, ground := Ground.phase }, { on := 8, ground := Ground.phase }, { on := 9, ground := Ground.phase }, { on := 10, ground := Ground.phase }], guard := none }) (clo_grown _) rfl rfl rfl (by kernel_rfl) (by kernel_rfl) (by kernel_rfl) (by kernel_rfl) (by kernel_rfl) (fun _ _ _ h => h) (YG.val (by rfl) (fun _ _ => rfl)) ?_
    simp only [Act.put, List.setIfInBounds_toArray, List.set_cons_zero, List.set_cons_succ]
    refine wpX_take 3 (v := .slice a n c) (oi := { dst := some 60, op := Op.move (Operand.tmp 3), type := 34, pos := "law.go:58", after := #[], guard := none }) (oL := { dst := some 17, op := Op.assign (Operand.tmp 65), type := 36, pos := "law.go:58", after := #[{ on := 9, ground := Ground.data }, { on := 10, ground := Ground.chain }, { on := 0, ground := Ground.phase }, { on := 1, ground := Ground.phase }, { on := 2, ground := Ground.phase }, { on := 3, ground := Ground.phase }, { on := 4, ground := Ground.phase }, { on := 5, ground := Ground.phase }, { on := 6, ground := Ground.phase }, { on := 7, ground := Ground.phase }, { on := 8, ground := Ground.phase }, { on := 9, ground := Ground.phase }, { on := 10, ground := Ground.phase }], guard := none }) (clo_grown _) rfl rfl rfl (by kernel_rfl) (by kernel_rfl) (by kernel_rfl) (by kernel_rfl) (by kernel_rfl) (fun _ _ _ h => h) (YG.val (by rfl) (fun _ _ => rfl)) ?_
    simp only [Act.put, List.setIfInBounds_toArray, List.set_cons_zero, List.set_cons_succ]
    refine wpX_take 4 (v := .int .i64 (n : Int)) (oi := { dst := some 61, op := Op.call { callee := Callee.builtin Builtin.len, args := #[Operand.tmp 60], argTypes := #[34] }, type := 3, pos := "law.go:58", after := #[{ on := 3, ground := Ground.data }], guard := none }) (oL := { dst := some 17, op := Op.assign (Operand.tmp 65), type := 36, pos := "law.go:58", after := #[{ on := 9, ground := Ground.data }, { on := 10, ground := Ground.chain }, { on := 0, ground := Ground.phase }, { on := 1, ground := Ground.phase }, { on := 2, ground := Ground.phase }, { on := 3, ground := Ground.phase }, { on := 4, ground := Ground.phase }, { on := 5, ground := Ground.phase }, { on := 6, ground := Ground.phase }, { on := 7, ground := Ground.phase }, { on := 8, ground := Ground.phase }, { on := 9, ground := Ground.phase }, { on := 10, ground := Ground.phase }], guard := none }) (clo_grown _) rfl rfl rfl (by kernel_rfl) (by kernel_rfl) (by kernel_rfl) (by kernel_rfl) (by kernel_rfl) (fun _ _ _ h => h) (YG.val (by rfl) (fun _ _ => by go_simp)) ?_
    simp only [Act.put, List.setIfInBounds_toArray, List.set_cons_zero, List.set_cons_succ]
    refine wpX_take 5 (v := .slice (some ⟨gA, 0, none⟩) n cA) (oi := { dst := some 62, op := Op.slice 34 (Operand.tmp 59) none (some (Operand.tmp 61)) none, type := 34, pos := "law.go:58", after := #[{ on := 2, ground := Ground.data }, { on := 4, ground := Ground.data }], guard := none }) (oL := { dst := some 17, op := Op.assign (Operand.tmp 65), type := 36, pos := "law.go:58", after := #[{ on := 9, ground := Ground.data }, { on := 10, ground := Ground.chain }, { on := 0, ground := Ground.phase }, { on := 1, ground := Ground.phase }, { on := 2, ground := Ground.phase }, { on := 3, ground := Ground.phase }, { on := 4, ground := Ground.phase }, { on := 5, ground := Ground.phase }, { on := 6, ground := Ground.phase }, { on := 7, ground := Ground.phase }, { on := 8, ground := Ground.phase }, { on := 9, ground := Ground.phase }, { on := 10, ground := Ground.phase }], guard := none }) (clo_grown _) rfl rfl rfl (by kernel_rfl) (by kernel_rfl) (by kernel_rfl) (by kernel_rfl) (by kernel_rfl) (fun _ _ _ h => h) (YG.val (by rfl) (fun u _ => run_pre_op u _ (.tmp 59) (.tmp 61) rfl gA (n + 70) cA n rfl rfl (by omega))) ?_
    simp only [Act.put, List.setIfInBounds_toArray, List.set_cons_zero, List.set_cons_succ]
    refine wpX_step 6 (o := { dst := some 63, op := Op.call { callee := Callee.value (Operand.func 19), args := #[Operand.tmp 57, Operand.tmp 58, Operand.tmp 62], argTypes := #[27, 3, 34] }, type := 37, pos := "law.go:58", after := #[{ on := 0, ground := Ground.data }, { on := 1, ground := Ground.data }, { on := 5, ground := Ground.data }], guard := none }) rfl rfl (by kernel_rfl) (by rfl) (fun u2 hS2 K hK => ?_)
    have HK := Lib.hid hK
    have HS2 := Lib.hid hS2
    clear hK hS2
    refine wp_call_op (f := 19) (args := #[.agg (cellsB key), .int .i64 x, .slice (some ⟨gA, 0, none⟩) n cA]) (w1 := u2) (by go_simp) ((HAP.out _ _ u2 (by have h := (HFA.out.grown HS2.out).lies.take n; rw [lent_take l n HL.out] at h; exact h)).mono ?_)
    rintro e u3 ⟨a4, m4, c4, rfl, ho, hg⟩
    obtain rfl := ho.len
    refine ⟨_, rfl, HK.out (fun u => u3.grownBy u none) _ _ (World.grownBy.refl _ _) (fun u h => grownBy_trans (grownBy_trans HS2.out hg) h) (clo_grown u3) ?_⟩
    simp only [Act.put, List.setIfInBounds_toArray, List.set_cons_zero, List.set_cons_succ]
    refine wpX_take 7 (v := .tuple #[.slice a4 P.length c4, .int .i64 E2]) (oi := { dst := some 56, op := Op.move (Operand.tmp 63), type := 37, pos := "law.go:58", after := #[{ on := 6, ground := Ground.data }], guard := none }) (oL := { dst := some 17, op := Op.assign (Operand.tmp 65), type := 36, pos := "law.go:58", after := #[{ on := 9, ground := Ground.data }, { on := 10, ground := Ground.chain }, { on := 0, ground := Ground.phase }, { on := 1, ground := Ground.phase }, { on := 2, ground := Ground.phase }, { on := 3, ground := Ground.phase }, { on := 4, ground := Ground.phase }, { on := 5, ground := Ground.phase }, { on := 6, ground := Ground.phase }, { on := 7, ground := Ground.phase }, { on := 8, ground := Ground.phase }, { on := 9, ground := Ground.phase }, { on := 10, ground := Ground.phase }], guard := none }) (clo_grown _) rfl rfl rfl (by kernel_rfl) (by kernel_rfl) (by kernel_rfl) (by kernel_rfl) (by kernel_rfl) (fun _ _ _ h => h) (YG.val (by rfl) (fun _ _ => rfl)) ?_
    simp only [Act.put, List.setIfInBounds_toArray, List.set_cons_zero, List.set_cons_succ]
    refine wpX_take 8 (v := .slice a4 P.length c4) (oi := { dst := some 64, op := Op.extract (Operand.tmp 56) 0, type := 34, pos := "law.go:58", after := #[{ on := 7, ground := Ground.data }], guard := none }) (oL := { dst := some 17, op := Op.assign (Operand.tmp 65), type := 36, pos := "law.go:58", after := #[{ on := 9, ground := Ground.data }, { on := 10, ground := Ground.chain }, { on := 0, ground := Ground.phase }, { on := 1, ground := Ground.phase }, { on := 2, ground := Ground.phase }, { on := 3, ground := Ground.phase }, { on := 4, ground := Ground.phase }, { on := 5, ground := Ground.phase }, { on := 6, ground := Ground.phase }, { on := 7, ground := Ground.phase }, { on := 8, ground := Ground.phase }, { on := 9, ground := Ground.phase }, { on := 10, ground := Ground.phase }], guard := none }) (clo_grown _) rfl rfl rfl (by kernel_rfl) (by kernel_rfl) (by kernel_rfl) (by kernel_rfl) (by kernel_rfl) (fun _ _ _ h => h) (YG.val (by rfl) (fun _ _ => by go_simp)) ?_
    simp only [Act.put, List.setIfInBounds_toArray, List.set_cons_zero, List.set_cons_succ]
    refine wpX_take 9 (v := .int .i64 E2) (oi := { dst := some 65, op := Op.extract (Operand.tmp 56) 1, type := 36, pos := "law.go:58", after := #[{ on := 7, ground := Ground.data }, { on := 10, ground := Ground.gcOnly Departure.lateStores }], guard := none }) (oL := { dst := some 17, op := Op.assign (Operand.tmp 65), type := 36, pos := "law.go:58", after := #[{ on := 9, ground := Ground.data }, { on := 10, ground := Ground.chain }, { on := 0, ground := Ground.phase }, { on := 1, ground := Ground.phase }, { on := 2, ground := Ground.phase }, { on := 3, ground := Ground.phase }, { on := 4, ground := Ground.phase }, { on := 5, ground := Ground.phase }, { on := 6, ground := Ground.phase }, { on := 7, ground := Ground.phase }, { on := 8, ground := Ground.phase }, { on := 9, ground := Ground.phase }, { on := 10, ground := Ground.phase }], guard := none }) (clo_grown _) rfl rfl rfl (by kernel_rfl) (by kernel_rfl) (by kernel_rfl) (by kernel_rfl) (by kernel_rfl) (fun _ _ _ h => h) (YG.val (by rfl) (fun _ _ => by go_simp)) ?_
    simp only [Act.put, List.setIfInBounds_toArray, List.set_cons_zero, List.set_cons_succ]
    refine wpX_take 10 (v := .slice a4 P.length c4) (oi := { dst := some 16, op := Op.assign (Operand.tmp 64), type := 34, pos := "law.go:58", after := #[{ on := 8, ground := Ground.data }, { on := 6, ground := Ground.chain }, { on := 0, ground := Ground.phase }, { on := 1, ground := Ground.phase }, { on := 2, ground := Ground.phase }, { on := 3, ground := Ground.phase }, { on := 4, ground := Ground.phase }, { on := 5, ground := Ground.phase }, { on := 6, ground := Ground.phase }, { on := 7, ground := Ground.phase }, { on := 8, ground := Ground.phase }, { on := 9, ground := Ground.textOnly Departure.lateStores }], guard := none }) (oL := { dst := some 17, op := Op.assign (Operand.tmp 65), type := 36, pos := "law.go:58", after := #[{ on := 9, ground := Ground.data }, { on := 10, ground := Ground.chain }, { on := 0, ground := Ground.phase }, { on := 1, ground := Ground.phase }, { on := 2, ground := Ground.phase }, { on := 3, ground := Ground.phase }, { on := 4, ground := Ground.phase }, { on := 5, ground := Ground.phase }, { on := 6, ground := Ground.phase }, { on := 7, ground := Ground.phase }, { on := 8, ground := Ground.phase }, { on := 9, ground := Ground.phase }, { on := 10, ground := Ground.phase }], guard := none }) (clo_grown _) rfl rfl rfl (by kernel_rfl) (by kernel_rfl) (by kernel_rfl) (by kernel_rfl) (by kernel_rfl) (fun _ _ _ h => h) (YG.val (by rfl) (fun _ _ => rfl)) ?_
    simp only [Act.put, List.setIfInBounds_toArray, List.set_cons_zero, List.set_cons_succ]
    refine wpX_last (oL := { dst := some 17, op := Op.assign (Operand.tmp 65), type := 36, pos := "law.go:58", after := #[{ on := 9, ground := Ground.data }, { on := 10, ground := Ground.chain }, { on := 0, ground := Ground.phase }, { on := 1, ground := Ground.phase }, { on := 2, ground := Ground.phase }, { on := 3, ground := Ground.phase }, { on := 4, ground := Ground.phase }, { on := 5, ground := Ground.phase }, { on := 6, ground := Ground.phase }, { on := 7, ground := Ground.phase }, { on := 8, ground := Ground.phase }, { on := 9, ground := Ground.phase }, { on := 10, ground := Ground.phase }], guard := none }) rfl (by kernel_rfl) (by kernel_rfl) (by rfl) (fun u4 hS4 K4 hK4 => ?_)
    refine wp_val_op (v := .int .i64 E2) (w1 := u4) (rfl) (hK4 _ _ ?_)
    simp only [Act.put, List.setIfInBounds_toArray, List.set_cons_zero, List.set_cons_succ]
    obtain ⟨w6, hwn⟩ : ∃ w6, w6 = u4 := ⟨_, rfl⟩
    rw [← hwn] at hS4 ⊢
    have HX4 := Lib.hid ((BOwn.grown ho hS4).mono HS2.out.size)
    have g := grownBy_trans (grownBy_trans HS2.out hg) hS4
    clear hwn ho hg hS4 HS2 HK hK4
    have Z6 := Lib.hid g.size
    replace HG := Lib.hid (grownBy_trans HG.out g)
    replace HKY := Lib.hid (HKY.out.grown g)
    replace HFA := Lib.hid (HFA.out.grown g)
    replace HX1 := Lib.hid (HX1.out.grown g)
    replace HX2 := Lib.hid (HX2.out.grown g)
    replace HX3 := Lib.hid (HX3.out.grown g)
    clear g
    have WI4 := Lib.hid (BOwn.within HX4.out)
    go_wp2_with fail
    refine (kept_yes _ _ _ _ n _ l _ (BOwn.lies HFA.out) (HA.out.grown HG.out) HL.out rfl (by omega)).mono ?_
    rintro e w7 ⟨rfl, g⟩
    have Z7 := Lib.hid g.size
    replace HG := Lib.hid (grownBy_trans HG.out g)
    replace HKY := Lib.hid (HKY.out.grown g)
    replace HFA := Lib.hid (HFA.out.grown g)
    replace HX1 := Lib.hid (HX1.out.grown g)
    replace HX2 := Lib.hid (HX2.out.grown g)
    replace HX3 := Lib.hid (HX3.out.grown g)
    replace HX4 := Lib.hid (HX4.out.grown g)
    clear g
    go_wp2_with fail
    refine (over_n _ gA cA (n + 70) (lent l) _ HFA.out (by omega)).mono ?_
    rintro e w8 ⟨rfl, oO, g⟩
    have Z8 := Lib.hid g.size
    replace HG := Lib.hid (grownBy_old HG.out g (Nat.le_trans HW1.out YgA.out.1))
    replace HKY := Lib.hid (HKY.out.grownNe g (fun e => by have h1 := HKL.out; have h2 := YgA.out; omega))
    replace HX1 : Hid (BOwn w8 w2.heap.size a1 S.length c1 S) := Lib.hid (Own.grownNe HX1.out g (fun q hc hq hr => by
      obtain ⟨g', e1, h1, _⟩ := Own.block HX1.out hc
      rw [hq] at e1; injection e1 with e1; injection e1 with e1; injection hr with hr
      have h2 := YgA.out
      have z2 := Z2.out; have z3 := Z3.out; have z4 := Z4.out; have z5 := Z5.out
      omega))
    replace HX2 : Hid (BOwn w8 w3.heap.size a2 S.length c2 S) := Lib.hid (Own.grownNe HX2.out g (fun q hc hq hr => by
      obtain ⟨g', e1, h1, _⟩ := Own.block HX2.out hc
      rw [hq] at e1; injection e1 with e1; injection e1 with e1; injection hr with hr
      have h2 := YgA.out
      have z2 := Z2.out; have z3 := Z3.out; have z4 := Z4.out; have z5 := Z5.out
      omega))
    replace HX3 : Hid (BOwn w8 w4.heap.size a3 P.length c3 P) := Lib.hid (Own.grownNe HX3.out g (fun q hc hq hr => by
      obtain ⟨g', e1, h1, _⟩ := Own.block HX3.out hc
      rw [hq] at e1; injection e1 with e1; injection e1 with e1; injection hr with hr
      have h2 := YgA.out
      have z2 := Z2.out; have z3 := Z3.out; have z4 := Z4.out; have z5 := Z5.out
      omega))
    replace HX4 : Hid (BOwn w8 w5.heap.size a4 P.length c4 P) := Lib.hid (Own.grownNe HX4.out g (fun q hc hq hr => by
      obtain ⟨g', e1, h1, _⟩ := Own.block HX4.out hc
      rw [hq] at e1; injection e1 with e1; injection e1 with e1; injection hr with hr
      have h2 := YgA.out
      have z2 := Z2.out; have z3 := Z3.out; have z4 := Z4.out; have z5 := Z5.out
      omega))
    clear oO g HFA
    go_upto_region 14 with (first
      | (refine wpList_load_row rfl 27 _ rfl w.heap.size rfl 27 (cellsB key) (0, 0) _ HKY.out Try.underlying27 rfl (by rw [cellsB_size, hkl]; kernel_rfl) ?_)
      | (go_at_call 22; refine (HRS.out _).mono ?_; rintro e w9 ⟨a5, n5, c5, rfl, ho, g⟩; obtain rfl := ho.len; have HX5 := Lib.hid ho; clear ho))
    have Z9 := Lib.hid g.size
    replace HG := Lib.hid (grownBy_trans HG.out g)
    replace HKY := Lib.hid (HKY.out.grown g)
    replace HX1 := Lib.hid (HX1.out.grown g)
    replace HX2 := Lib.hid (HX2.out.grown g)
    replace HX3 := Lib.hid (HX3.out.grown g)
    replace HX4 := Lib.hid (HX4.out.grown g)
    clear g
    go_upto_region 15 with (first
      | (refine wpList_load_row rfl 27 _ rfl w.heap.size rfl 27 (cellsB key) (0, 0) _ HKY.out Try.underlying27 rfl (by rw [cellsB_size, hkl]; kernel_rfl) ?_)
      | (go_at_call 23; refine (HRA.out _ _ _ (HA.out.grown HG.out)).mono ?_; rintro e w10 ⟨a6, n6, c6, rfl, ho, g⟩; obtain rfl := ho.len; have HX6 := Lib.hid ho; clear ho))
    have Z10 := Lib.hid g.size
    replace HG := Lib.hid (grownBy_trans HG.out g)
    replace HKY := Lib.hid (HKY.out.grown g)
    replace HX1 := Lib.hid (HX1.out.grown g)
    replace HX2 := Lib.hid (HX2.out.grown g)
    replace HX3 := Lib.hid (HX3.out.grown g)
    replace HX4 := Lib.hid (HX4.out.grown g)
    replace HX5 := Lib.hid (HX5.out.grown g)
    clear g
    go_wp2_with fail
    refine (same_yes _ _ _ _ _ _ S _ (BOwn.lies HX1.out) (BOwn.lies HX5.out) rfl rfl (Nat.le_trans HBS.out (by decide))).mono ?_
    rintro e w11 ⟨rfl, q, hq⟩
    have g := drewg hq
    clear hq q
    have Z11 := Lib.hid g.size
    replace HG := Lib.hid (grownBy_trans HG.out g)
    replace HKY := Lib.hid (HKY.out.grown g)
    replace HX1 := Lib.hid (HX1.out.grown g)
    replace HX2 := Lib.hid (HX2.out.grown g)
    replace HX3 := Lib.hid (HX3.out.grown g)
    replace HX4 := Lib.hid (HX4.out.grown g)
    replace HX5 := Lib.hid (HX5.out.grown g)
    replace HX6 := Lib.hid (HX6.out.grown g)
    clear g
    go_wp2_with fail
    refine (same_yes _ _ _ _ _ _ S _ (BOwn.lies HX2.out) (BOwn.lies HX5.out) rfl rfl (Nat.le_trans HBS.out (by decide))).mono ?_
    rintro e w12 ⟨rfl, q, hq⟩
    have g := drewg hq
    clear hq q
    have Z12 := Lib.hid g.size
    replace HG := Lib.hid (grownBy_trans HG.out g)
    replace HKY := Lib.hid (HKY.out.grown g)
    replace HX1 := Lib.hid (HX1.out.grown g)
    replace HX2 := Lib.hid (HX2.out.grown g)
    replace HX3 := Lib.hid (HX3.out.grown g)
    replace HX4 := Lib.hid (HX4.out.grown g)
    replace HX5 := Lib.hid (HX5.out.grown g)
    replace HX6 := Lib.hid (HX6.out.grown g)
    clear g
    go_wp2_with fail
    refine (same_yes _ _ _ _ _ _ P _ (BOwn.lies HX3.out) (BOwn.lies HX6.out) rfl rfl (Nat.le_trans HBP.out (by decide))).mono ?_
    rintro e w13 ⟨rfl, q, hq⟩
    have g := drewg hq
    clear hq q
    have Z13 := Lib.hid g.size
    replace HG := Lib.hid (grownBy_trans HG.out g)
    replace HKY := Lib.hid (HKY.out.grown g)
    replace HX1 := Lib.hid (HX1.out.grown g)
    replace HX2 := Lib.hid (HX2.out.grown g)
    replace HX3 := Lib.hid (HX3.out.grown g)
    replace HX4 := Lib.hid (HX4.out.grown g)
    replace HX5 := Lib.hid (HX5.out.grown g)
    replace HX6 := Lib.hid (HX6.out.grown g)
    clear g
    go_wp2_with fail
    refine (same_yes _ _ _ _ _ _ P _ (BOwn.lies HX4.out) (BOwn.lies HX6.out) rfl rfl (Nat.le_trans HBP.out (by decide))).mono ?_
    rintro e w14 ⟨rfl, q, hq⟩
    have g := drewg hq
    clear hq q
    have Z14 := Lib.hid g.size
    replace HG := Lib.hid (grownBy_trans HG.out g)
    replace HKY := Lib.hid (HKY.out.grown g)
    replace HX1 := Lib.hid (HX1.out.grown g)
    replace HX2 := Lib.hid (HX2.out.grown g)
    replace HX3 := Lib.hid (HX3.out.grown g)
    replace HX4 := Lib.hid (HX4.out.grown g)
    replace HX5 := Lib.hid (HX5.out.grown g)
    replace HX6 := Lib.hid (HX6.out.grown g)
    clear g
    go_wp2_with fail
    have zr : w.heap.size ≤ w14.heap.size := HG.out.size
    have zw := HW1.out
    have z2 := Z2.out
    have z3 := Z3.out
    have z4 := Z4.out
    have z5 := Z5.out
    have z6 := Z6.out
    have z7 := Z7.out
    have z8 := Z8.out
    have z9 := Z9.out
    have z10 := Z10.out
    have z11 := Z11.out
    have z12 := Z12.out
    have z13 := Z13.out
    have z14 := Z14.out
    have hst := st1_lit (w := w14) (base := w.heap.size) (L := [⟨a1, S.length, c1⟩, ⟨a2, S.length, c2⟩, ⟨a3, P.length, c3⟩, ⟨a4, P.length, c4⟩])
      (fun j hj => match j, hj with
        | 0, _ => ⟨_, HX1.out.mono (by omega)⟩
        | 1, _ => ⟨_, HX2.out.mono (by omega)⟩
        | 2, _ => ⟨_, HX3.out.mono (by omega)⟩
        | 3, _ => ⟨_, HX4.out.mono (by omega)⟩) zr 4 rfl (by decide)
    have hd : Distinct [⟨a1, S.length, c1⟩, ⟨a2, S.length, c2⟩, ⟨a3, P.length, c3⟩, ⟨a4, P.length, c4⟩] := by
      apply distinct_pairs
      simp only [List.pairwise_cons, List.mem_cons, List.not_mem_nil, or_false, forall_eq_or_imp, forall_eq, List.Pairwise.nil, and_true, false_implies, implies_true]
      exact ⟨⟨Sl.off_win WI1.out WI2.out (by omega), Sl.off_win WI1.out WI3.out (by omega), Sl.off_win WI1.out WI4.out (by omega)⟩, ⟨Sl.off_win WI2.out WI3.out (by omega), Sl.off_win WI2.out WI4.out (by omega)⟩, Sl.off_win WI3.out WI4.out (by omega)⟩
    refine (apart_n _ _ _ 4 _ _ hst (by simp; omega) hd rfl (by omega) (fun j hj => match j, hj with
        | 0, _ => (by show S.length ≤ 100000000; have := HBS.out; omega)
        | 1, _ => (by show S.length ≤ 100000000; have := HBS.out; omega)
        | 2, _ => (by show P.length ≤ 100000000; have := HBP.out; omega)
        | 3, _ => (by show P.length ≤ 100000000; have := HBP.out; omega))).mono ?_
    rintro e wz ⟨rfl, hbel⟩
    have GZ := Lib.hid (grown_below (grownBy_trans HG.out (World.grownBy_alloc w14 (.cells (([⟨a1, S.length, c1⟩, ⟨a2, S.length, c2⟩, ⟨a3, P.length, c3⟩, ⟨a4, P.length, c4⟩] : List Sl).map Sl.val).toArray 34) none)) hbel (Nat.le_refl _))
    clear hbel hd hst
    go_wp2_with fail
    go_ret
    exact ⟨rfl, GZ.out⟩

end Go.Proofs.Ytblgdfamomlklaa
