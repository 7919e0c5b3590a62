/- Helpers and contracts of the proofs over this seat: CtrBackL. Each states what a function of the program answers, or is plain Lean; its conditions stand in each statement. -/
import Derived.Test.YtblgdfamomlklaaPtAA
import Derived.Test.YtblgdfamomlklaaPtAB
import Derived.Test.YtblgdfamomlklaaPtAC
import Derived.Test.YtblgdfamomlklaaPtAD
import Derived.Test.YtblgdfamomlklaaPtAE
import Derived.Test.YtblgdfamomlklaaPtAF
set_option linter.unusedVariables false
/- The law CtrBack. -/
namespace Go.Proofs.Ytblgdfamomlklaa
open Go.RowKit

set_option maxRecDepth 100000 in
set_option maxHeartbeats 4000000 in
theorem back_walk (key : List UInt8) (hkl : key.length = 16) (x : Int) (a : Option Addr) (n c : Nat) (l : List UInt8) (w : World) (ha : BLies w a l) (hl : l.length = n) :
    Calls Try.prog 6 #[aggB key, .int .i64 x, .slice a n c] w fun e w' => e = .returned (.bool true) ∧ w.grownBy w' none := by
  have HA := Lib.hid ha
  have HL := Lib.hid hl
  clear ha hl
  unfold aggB
  go_enter Try.func6, Try.ntmps6
  go_upto_region 1 with (refine wpList_boxed rfl rfl (cellsB key) rfl ?_; intro w1 hs1 hg1 hr1; have HG := Lib.hid hg1; have HK := Lib.hid hr1; clear hs1 hg1 hr1)
  go_wp2_with fail
  refine (awake_n _).mono ?_
  rintro e w2 ⟨rfl, g⟩
  replace HG := Lib.hid (grownBy_trans HG.out g)
  replace HK := Lib.hid (HK.out.grown g)
  clear g
  by_cases hbig : 3000 < n
  · have hd1 : decide ((3000 : Int) < (n : Int)) = true := decide_eq_true (by omega)
    have hd2 : decide (3000 < n) = true := decide_eq_true hbig
    go_wp2_with fail
    go_ret
    exact ⟨rfl, HG.out⟩
  have hd1 : decide ((3000 : Int) < (n : Int)) = false := decide_eq_false (by omega)
  have hd2 : decide (3000 < n) = false := decide_eq_false hbig
  go_upto_region 5 with fail
  obtain ⟨E, hE⟩ : ∃ E, E = stE x (n : Int) := ⟨_, rfl⟩
  have hap : ∀ u (a : Option Addr) (c : Nat), BLies u a l → Calls Try.prog 19 #[aggB key, .int .i64 x, .slice a n c] u fun e w' => ∃ a' n' c', e = .returned (.tuple #[.slice a' n' c', .int .i64 E]) ∧ BOwn w' u.heap.size a' n' c' (apL key x l) ∧ u.grownBy w' none := fun u a c h => by
    rw [hE]
    exact apply_n key hkl x a n c l HL.out (by omega) u h
  have hzr : ∀ u (a : Option Addr) (c : Nat), BLies u a (List.replicate n 0) → Calls Try.prog 19 #[aggB key, .int .i64 x, .slice a n c] u fun e w' => ∃ a' n' c', e = .returned (.tuple #[.slice a' n' c', .int .i64 E]) ∧ BOwn w' u.heap.size a' n' c' (apL key x (List.replicate n 0)) ∧ u.grownBy w' none := fun u a c h => by
    rw [hE]
    exact apply_n key hkl x a n c _ (by simp) (by omega) u h
  have hst : ∀ u, Calls Try.prog 18 #[aggB key, .int .i64 x, .int .i64 (n : Int)] u fun e w' => ∃ a' n' c', e = .returned (.tuple #[.slice a' n' c', .int .i64 E]) ∧ BOwn w' u.heap.size a' n' c' (stL key x n) ∧ u.grownBy w' none := fun u => by
    rw [hE]
    exact stream_n key hkl x n (by omega) u
  have hbk : ∀ u (a : Option Addr) (c : Nat), E = 0 → BLies u a (apL key x l) → Calls Try.prog 19 #[aggB key, .int .i64 x, .slice a n c] u fun e w' => ∃ a' n' c', e = .returned (.tuple #[.slice a' n' c', .int .i64 0]) ∧ BOwn w' u.heap.size a' n' c' l ∧ u.grownBy w' none := fun u a c h0 h => by
    have he : stE x l.length = 0 := by rw [HL.out, ← hE, h0]
    have hln : (apL key x l).length = n := by rw [apL_len he, HL.out]
    have := apply_n key hkl x a n c _ hln (by omega) u h
    rw [apL_back he, ← hE, h0] at this
    exact this
  have hlp : E = 0 → (apL key x l).length = n := fun h0 => by
    have he : stE x l.length = 0 := by rw [HL.out, ← hE, h0]
    rw [apL_len he, HL.out]
  have hln : E ≠ 0 → (apL key x l).length = 0 := fun h0 => by
    have he : stE x l.length ≠ 0 := by rw [HL.out, ← hE]; exact h0
    rw [apL_bad he]
    rfl
  have hzs : E = 0 → apL key x (List.replicate n 0) = stL key x n := fun h0 => apL_zero (by rw [← hE, h0])
  have hls : E = 0 → (stL key x n).length = n := fun h0 => stL_len (by rw [← hE, h0])
  generalize apL key x (List.replicate n 0) = Z at hzr hzs
  generalize apL key x l = P at hap hbk hlp hln
  generalize stL key x n = S at hst hzs hls
  have HAP := Lib.hid hap
  have HZR := Lib.hid hzr
  have HST := Lib.hid hst
  have HBK := Lib.hid hbk
  have HLP := Lib.hid hlp
  have HLN := Lib.hid hln
  have HZS := Lib.hid hzs
  have HLS := Lib.hid hls
  clear hap hzr hst hbk hlp hln hzs hls hE
  go_upto_region 6 with (first
    | (refine wpList_load_row rfl 27 _ rfl w.heap.size rfl 27 (cellsB key) (0, 0) _ HK.out Try.underlying27 rfl (by rw [cellsB_size, hkl]; kernel_rfl) ?_)
    | (go_at_call 19; refine (HAP.out _ _ _ (HA.out.grown HG.out)).mono ?_; rintro e w3 ⟨aP, nP, cP, rfl, ho, g⟩; have HP := Lib.hid ho; replace HG := Lib.hid (grownBy_trans HG.out g); replace HK := Lib.hid (HK.out.grown g); clear ho g))
  go_upto_region 7 with (first
    | (refine wpList_load_row rfl 27 _ rfl w.heap.size rfl 27 (cellsB key) (0, 0) _ HK.out Try.underlying27 rfl (by rw [cellsB_size, hkl]; kernel_rfl) ?_)
    | (go_at_call 18; refine (HST.out _).mono ?_; rintro e w4 ⟨aS, nS, cS, rfl, ho, g⟩; have HS := Lib.hid ho; replace HG := Lib.hid (grownBy_trans HG.out g); replace HK := Lib.hid (HK.out.grown g); replace HP := Lib.hid (HP.out.grown g); clear ho g))
  refine wp_regionX (fun u => w4.grownBy u none) 10 (by kernel_rfl) (grownBy_drewN w4 1 none) ?_
  refine wpX_take 0 (v := .agg (cellsB key)) (oi := { dst := some 35, op := Op.load 27 (Operand.tmp 3), type := 27, pos := "outright.go:33", after := #[], guard := none }) (oL := { dst := some 12, op := Op.assign (Operand.tmp 42), type := 36, pos := "outright.go:33", after := #[{ on := 8, ground := Ground.data }, { on := 9, ground := Ground.chain }, { on := 0, ground := Ground.phase }, { on := 1, ground := Ground.phase }, { on := 2, ground := Ground.phase }, { on := 3, ground := Ground.phase }, { on := 4, ground := Ground.phase }, { on := 5, ground := Ground.phase }, { on := 6, ground := Ground.phase }, { on := 7, ground := Ground.phase }, { on := 8, ground := Ground.phase }, { on := 9, ground := Ground.phase }], guard := none }) (clo_grown _) rfl rfl rfl (by kernel_rfl) (by kernel_rfl) (by kernel_rfl) (by kernel_rfl) (by kernel_rfl) (fun _ _ _ h => h) (YG.val (by rfl) (fun u hu => run_load_op u _ 27 (.tmp 3) rfl w.heap.size rfl 27 (cellsB key) (HK.out.grown hu) Try.underlying27 rfl (by rw [cellsB_size, hkl]; kernel_rfl))) ?_
  simp only [Act.put, List.setIfInBounds_toArray, List.set_cons_zero, List.set_cons_succ]
  refine wpX_take 1 (v := .int .i64 x) (oi := { dst := some 36, op := Op.move (Operand.tmp 1), type := 3, pos := "outright.go:33", after := #[], guard := none }) (oL := { dst := some 12, op := Op.assign (Operand.tmp 42), type := 36, pos := "outright.go:33", after := #[{ on := 8, ground := Ground.data }, { on := 9, ground := Ground.chain }, { on := 0, ground := Ground.phase }, { on := 1, ground := Ground.phase }, { on := 2, ground := Ground.phase }, { on := 3, ground := Ground.phase }, { on := 4, ground := Ground.phase }, { on := 5, ground := Ground.phase }, { on := 6, ground := Ground.phase }, { on := 7, ground := Ground.phase }, { on := 8, ground := Ground.phase }, { on := 9, ground := Ground.phase }], guard := none }) (clo_grown _) rfl rfl rfl (by kernel_rfl) (by kernel_rfl) (by kernel_rfl) (by kernel_rfl) (by kernel_rfl) (fun _ _ _ h => h) (YG.val (by rfl) (fun _ _ => rfl)) ?_
  simp only [Act.put, List.setIfInBounds_toArray, List.set_cons_zero, List.set_cons_succ]
  refine wpX_take 2 (v := .slice a n c) (oi := { dst := some 37, op := Op.move (Operand.tmp 2), type := 34, pos := "outright.go:33", after := #[], guard := none }) (oL := { dst := some 12, op := Op.assign (Operand.tmp 42), type := 36, pos := "outright.go:33", after := #[{ on := 8, ground := Ground.data }, { on := 9, ground := Ground.chain }, { on := 0, ground := Ground.phase }, { on := 1, ground := Ground.phase }, { on := 2, ground := Ground.phase }, { on := 3, ground := Ground.phase }, { on := 4, ground := Ground.phase }, { on := 5, ground := Ground.phase }, { on := 6, ground := Ground.phase }, { on := 7, ground := Ground.phase }, { on := 8, ground := Ground.phase }, { on := 9, ground := Ground.phase }], guard := none }) (clo_grown _) rfl rfl rfl (by kernel_rfl) (by kernel_rfl) (by kernel_rfl) (by kernel_rfl) (by kernel_rfl) (fun _ _ _ h => h) (YG.val (by rfl) (fun _ _ => rfl)) ?_
  simp only [Act.put, List.setIfInBounds_toArray, List.set_cons_zero, List.set_cons_succ]
  refine wpX_take 3 (v := .int .i64 (n : Int)) (oi := { dst := some 38, op := Op.call { callee := Callee.builtin Builtin.len, args := #[Operand.tmp 37], argTypes := #[34] }, type := 3, pos := "outright.go:33", after := #[{ on := 2, ground := Ground.data }], guard := none }) (oL := { dst := some 12, op := Op.assign (Operand.tmp 42), type := 36, pos := "outright.go:33", after := #[{ on := 8, ground := Ground.data }, { on := 9, ground := Ground.chain }, { on := 0, ground := Ground.phase }, { on := 1, ground := Ground.phase }, { on := 2, ground := Ground.phase }, { on := 3, ground := Ground.phase }, { on := 4, ground := Ground.phase }, { on := 5, ground := Ground.phase }, { on := 6, ground := Ground.phase }, { on := 7, ground := Ground.phase }, { on := 8, ground := Ground.phase }, { on := 9, ground := Ground.phase }], guard := none }) (clo_grown _) rfl rfl rfl (by kernel_rfl) (by kernel_rfl) (by kernel_rfl) (by kernel_rfl) (by kernel_rfl) (fun _ _ _ h => h) (YG.val (by rfl) (fun _ _ => by go_simp)) ?_
  simp only [Act.put, List.setIfInBounds_toArray, List.set_cons_zero, List.set_cons_succ]
  refine wpX_step 4 (o := { dst := some 39, op := Op.makeSlice 34 (Operand.tmp 38) (Operand.tmp 38), type := 34, pos := "outright.go:33", after := #[{ on := 3, ground := Ground.data }, { on := 3, ground := Ground.data }], guard := none }) rfl rfl (by kernel_rfl) (by rfl) (fun u2 hS2 K hK => ?_)
  have HK := Lib.hid hK
  have HS := Lib.hid hS2
  clear hK hS2
  refine wp_mkB (.tmp 38) (.tmp 38) rfl n rfl rfl (by omega) ?_
  intro wm hsz g hr
  have Gwm := Lib.hid (grownBy_trans HS.out g)
  have Zwm := Lib.hid HS.out.size
  obtain ⟨gm, hgm⟩ : ∃ gm, gm = u2.heap.size := ⟨_, rfl⟩
  rw [← hgm] at hr ⊢
  have HM := Lib.hid (BRow.lies hr)
  clear hr hsz hgm
  refine HK.out (fun u => wm.grownBy u none) _ _ (World.grownBy.refl _ _) (fun u h => grownBy_trans Gwm.out h) (clo_grown wm) ?_
  clear HK HS g
  simp only [Act.put, List.setIfInBounds_toArray, List.set_cons_zero, List.set_cons_succ]
  refine wpX_step 5 (o := { dst := some 40, op := Op.call { callee := Callee.value (Operand.func 19), args := #[Operand.tmp 35, Operand.tmp 36, Operand.tmp 39], argTypes := #[27, 3, 34] }, type := 37, pos := "outright.go:33", after := #[{ on := 0, ground := Ground.data }, { on := 1, ground := Ground.data }, { on := 4, ground := Ground.data }], guard := none }) rfl rfl (by kernel_rfl) (by rfl) (fun u2 hS2 K hK => ?_)
  have HK := Lib.hid hK
  have HS := Lib.hid hS2
  clear hK hS2
  refine wp_call_op (f := 19) (args := #[.agg (cellsB key), .int .i64 x, .slice (some ⟨gm, 0, none⟩) n n]) (w1 := u2) (by go_simp) ((HZR.out u2 _ _ (HM.out.grown HS.out)).mono ?_)
  rintro e wz ⟨aZ, nZ, cZ, rfl, ho, g⟩
  have Gwz := Lib.hid (grownBy_trans HS.out g)
  have Zwz := Lib.hid HS.out.size
  have HZ := Lib.hid ho
  have hZn := BOwn.len ho
  clear ho
  refine ⟨_, rfl, HK.out (fun u => wz.grownBy u none) _ _ (World.grownBy.refl _ _) (fun u h => grownBy_trans Gwz.out h) (clo_grown wz) ?_⟩
  clear HK HS g
  simp only [Act.put, List.setIfInBounds_toArray, List.set_cons_zero, List.set_cons_succ]
  refine wpX_take 6 (v := .tuple #[.slice aZ nZ cZ, .int .i64 E]) (oi := { dst := some 34, op := Op.move (Operand.tmp 40), type := 37, pos := "outright.go:33", after := #[{ on := 5, ground := Ground.data }], guard := none }) (oL := { dst := some 12, op := Op.assign (Operand.tmp 42), type := 36, pos := "outright.go:33", after := #[{ on := 8, ground := Ground.data }, { on := 9, ground := Ground.chain }, { on := 0, ground := Ground.phase }, { on := 1, ground := Ground.phase }, { on := 2, ground := Ground.phase }, { on := 3, ground := Ground.phase }, { on := 4, ground := Ground.phase }, { on := 5, ground := Ground.phase }, { on := 6, ground := Ground.phase }, { on := 7, ground := Ground.phase }, { on := 8, ground := Ground.phase }, { on := 9, ground := Ground.phase }], guard := none }) (clo_grown _) rfl rfl rfl (by kernel_rfl) (by kernel_rfl) (by kernel_rfl) (by kernel_rfl) (by kernel_rfl) (fun _ _ _ h => h) (YG.val (by rfl) (fun _ _ => rfl)) ?_
  simp only [Act.put, List.setIfInBounds_toArray, List.set_cons_zero, List.set_cons_succ]
  refine wpX_take 7 (v := .slice aZ nZ cZ) (oi := { dst := some 41, op := Op.extract (Operand.tmp 34) 0, type := 34, pos := "outright.go:33", after := #[{ on := 6, ground := Ground.data }], guard := none }) (oL := { dst := some 12, op := Op.assign (Operand.tmp 42), type := 36, pos := "outright.go:33", after := #[{ on := 8, ground := Ground.data }, { on := 9, ground := Ground.chain }, { on := 0, ground := Ground.phase }, { on := 1, ground := Ground.phase }, { on := 2, ground := Ground.phase }, { on := 3, ground := Ground.phase }, { on := 4, ground := Ground.phase }, { on := 5, ground := Ground.phase }, { on := 6, ground := Ground.phase }, { on := 7, ground := Ground.phase }, { on := 8, ground := Ground.phase }, { on := 9, ground := Ground.phase }], guard := none }) (clo_grown _) rfl rfl rfl (by kernel_rfl) (by kernel_rfl) (by kernel_rfl) (by kernel_rfl) (by kernel_rfl) (fun _ _ _ h => h) (YG.val (by rfl) (fun _ _ => by go_simp)) ?_
  simp only [Act.put, List.setIfInBounds_toArray, List.set_cons_zero, List.set_cons_succ]
  refine wpX_take 8 (v := .int .i64 E) (oi := { dst := some 42, op := Op.extract (Operand.tmp 34) 1, type := 36, pos := "outright.go:33", after := #[{ on := 6, ground := Ground.data }, { on := 9, ground := Ground.gcOnly Departure.lateStores }], guard := none }) (oL := { dst := some 12, op := Op.assign (Operand.tmp 42), type := 36, pos := "outright.go:33", after := #[{ on := 8, ground := Ground.data }, { on := 9, ground := Ground.chain }, { on := 0, ground := Ground.phase }, { on := 1, ground := Ground.phase }, { on := 2, ground := Ground.phase }, { on := 3, ground := Ground.phase }, { on := 4, ground := Ground.phase }, { on := 5, ground := Ground.phase }, { on := 6, ground := Ground.phase }, { on := 7, ground := Ground.phase }, { on := 8, ground := Ground.phase }, { on := 9, ground := Ground.phase }], guard := none }) (clo_grown _) rfl rfl rfl (by kernel_rfl) (by kernel_rfl) (by kernel_rfl) (by kernel_rfl) (by kernel_rfl) (fun _ _ _ h => h) (YG.val (by rfl) (fun _ _ => by go_simp)) ?_
  simp only [Act.put, List.setIfInBounds_toArray, List.set_cons_zero, List.set_cons_succ]
  refine wpX_take 9 (v := .slice aZ nZ cZ) (oi := { dst := some 11, op := Op.assign (Operand.tmp 41), type := 34, pos := "outright.go:33", after := #[{ on := 7, ground := Ground.data }, { on := 5, ground := Ground.chain }, { on := 0, ground := Ground.phase }, { on := 1, ground := Ground.phase }, { on := 2, ground := Ground.phase }, { on := 3, ground := Ground.phase }, { on := 4, ground := Ground.phase }, { on := 5, ground := Ground.phase }, { on := 6, ground := Ground.phase }, { on := 7, ground := Ground.phase }, { on := 8, ground := Ground.textOnly Departure.lateStores }], guard := none }) (oL := { dst := some 12, op := Op.assign (Operand.tmp 42), type := 36, pos := "outright.go:33", after := #[{ on := 8, ground := Ground.data }, { on := 9, ground := Ground.chain }, { on := 0, ground := Ground.phase }, { on := 1, ground := Ground.phase }, { on := 2, ground := Ground.phase }, { on := 3, ground := Ground.phase }, { on := 4, ground := Ground.phase }, { on := 5, ground := Ground.phase }, { on := 6, ground := Ground.phase }, { on := 7, ground := Ground.phase }, { on := 8, ground := Ground.phase }, { on := 9, ground := Ground.phase }], guard := none }) (clo_grown _) rfl rfl rfl (by kernel_rfl) (by kernel_rfl) (by kernel_rfl) (by kernel_rfl) (by kernel_rfl) (fun _ _ _ h => h) (YG.val (by rfl) (fun _ _ => rfl)) ?_
  simp only [Act.put, List.setIfInBounds_toArray, List.set_cons_zero, List.set_cons_succ]
  refine wpX_last (oL := { dst := some 12, op := Op.assign (Operand.tmp 42), type := 36, pos := "outright.go:33", after := #[{ on := 8, ground := Ground.data }, { on := 9, ground := Ground.chain }, { on := 0, ground := Ground.phase }, { on := 1, ground := Ground.phase }, { on := 2, ground := Ground.phase }, { on := 3, ground := Ground.phase }, { on := 4, ground := Ground.phase }, { on := 5, ground := Ground.phase }, { on := 6, ground := Ground.phase }, { on := 7, ground := Ground.phase }, { on := 8, ground := Ground.phase }, { on := 9, ground := Ground.phase }], guard := none }) rfl (by kernel_rfl) (by kernel_rfl) (by rfl) (fun u4 hS4 K4 hK4 => ?_)
  refine wp_val_op (v := .int .i64 E) (w1 := u4) (by go_simp) (hK4 _ _ ?_)
  simp only [Act.put, List.setIfInBounds_toArray, List.set_cons_zero, List.set_cons_succ]
  have g : w4.grownBy u4 none := grownBy_trans (grownBy_trans Gwm.out Gwz.out) hS4
  obtain ⟨w5, hw5⟩ : ∃ w5, w5 = u4 := ⟨_, rfl⟩
  replace HZ := Lib.hid ((BOwn.lies HZ.out).grown hS4)
  have HZL := Lib.hid (show Z.length = nZ by assumption)
  rw [← hw5] at g HZ ⊢
  replace HG := Lib.hid (grownBy_trans HG.out g)
  replace HK := Lib.hid (HK.out.grown g)
  replace HP := Lib.hid (HP.out.grown g)
  replace HS := Lib.hid (HS.out.grown g)
  clear hw5 hS4 hK4 g Gwm Gwz HM Zwm Zwz
  by_cases he : E = 0
  · subst he
    have hp := HLP.out rfl
    have hs := HLS.out rfl
    have hz := HZS.out rfl
    have e1 : nP = n := by have := HP.out.len; omega
    have e2 : nS = n := by have := HS.out.len; omega
    have e3 : nZ = n := by have := HZL.out; rw [hz] at this; omega
    subst hz
    subst e1
    have HSE := Lib.hid hs
    clear hp hs e2 e3
    have hsm : nP ≤ maxLen := by unfold maxLen; omega
    go_wp2_with (first
      | (refine wpList_load_row rfl 27 _ rfl w.heap.size rfl 27 (cellsB key) (0, 0) _ HK.out Try.underlying27 rfl (by rw [cellsB_size, hkl]; kernel_rfl) ?_)
      | (go_at_call 19; refine (HBK.out _ _ _ rfl (BOwn.lies HP.out)).mono ?_; rintro e w6 ⟨aQ, nQ, cQ, rfl, ho, g⟩; have HQ := Lib.hid ho; replace HG := Lib.hid (grownBy_trans HG.out g); replace HS := Lib.hid (HS.out.grown g); replace HZ := Lib.hid (HZ.out.grown g); clear ho g))
    refine (same_yes _ _ _ _ _ _ l _ (BOwn.lies HQ.out) (HA.out.grown HG.out) HQ.out.len HL.out (by rw [← HQ.out.len, HL.out]; exact hsm)).mono ?_
    rintro e w7 ⟨rfl, q, hq⟩
    have g := drewg hq
    replace HG := Lib.hid (grownBy_trans HG.out g)
    replace HS := Lib.hid (HS.out.grown g)
    replace HZ := Lib.hid (HZ.out.grown g)
    clear hq g
    go_wp2_with fail
    refine (same_yes _ _ _ _ _ _ Z _ (BOwn.lies HS.out) HZ.out HS.out.len HZL.out (by rw [← HS.out.len, HSE.out]; exact hsm)).mono ?_
    rintro e w8 ⟨rfl, q2, hq2⟩
    have g := drewg hq2
    replace HG := Lib.hid (grownBy_trans HG.out g)
    clear hq2 g
    go_wp2_with fail
    go_ret
    exact ⟨rfl, HG.out⟩
  · have hd : decide (E = 0) = false := decide_eq_false he
    have hd2 : (E != 0) = true := by simpa using he
    have h0 : nP = 0 := by have := HP.out.len; have := HLN.out he; omega
    subst h0
    go_wp2_with fail
    go_ret
    exact ⟨rfl, HG.out⟩
end Go.Proofs.Ytblgdfamomlklaa
