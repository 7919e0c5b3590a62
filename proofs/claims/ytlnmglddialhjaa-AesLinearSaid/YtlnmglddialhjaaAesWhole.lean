/- The law AesWhole. -/
import Derived.Test.YtlnmglddialhjaaAesDec
namespace Go.Proofs.Ytlnmglddialhjaa
open Go.RowKit

set_option maxRecDepth 100000 in
set_option maxHeartbeats 4000000 in
theorem whole_walk (k b c : List UInt8) (hkl : k.length = 16) (hb : b.length = 16) (hcl : c.length = 16) (w : World) : Calls Try.prog 13 #[aggB k, aggB b, aggB c] w fun e w' => e = .returned (.bool true) ∧ w.grownBy w' none := by
  have hm1 : Try.prog.eqGuardType Try.prog.depth 27 = false := by kernel_rfl
  obtain ⟨ib, hib, hibz, hibs⟩ := block_info
  have IB := Lib.hid hib
  have IBZ := Lib.hid hibz
  have IBS := Lib.hid hibs
  clear hib hibz hibs
  have hnew := fun w => new_n k hkl w
  have hk := keysL_len k
  obtain ⟨kk, hkk⟩ : ∃ kk, kk = keysL k := ⟨_, rfl⟩
  rw [← hkk] at hnew hk
  clear hkk
  have hX := encS_len hk hb 10 (by omega)
  have hO := encS_len hk hcl 10 (by omega)
  have hZ := decS_len hk hb
  have h1 := fun gc w h => encrypt_n gc kk b hk hb w h
  have h2 := fun gc w h => decrypt_n gc kk _ hk hX w h
  have h3 := fun gc w h => decrypt_n gc kk b hk hb w h
  have h4 := fun gc w h => encrypt_n gc kk _ hk hZ w h
  have h5 := fun gc w h => encrypt_n gc kk c hk hcl w h
  rw [dec_enc hk hb] at h2
  rw [enc_dec hk hb] at h4
  have hq1 := fun w => (eq_block (encS kk c 10) (encS kk b 10) hO hX w).1
  rw [show decide (encS kk c 10 = encS kk b 10) = decide (c = b) from decide_eq_decide.2 (enc_inj hk hcl hb)] at hq1
  have hq2 := fun w => (eq_block c b hcl hb w).1
  have hq0 := fun w => same_block b hb w
  generalize decide (c = b) = p at hq1 hq2
  generalize encS kk b 10 = X at h1 h2 hq1 hX
  generalize encS kk c 10 = Y at h5 hq1 hO
  generalize decS kk b = Z at h3 h4 hZ
  have HN := Lib.hid hnew
  have E1 := Lib.hid h1
  have E2 := Lib.hid h2
  have E3 := Lib.hid h3
  have E4 := Lib.hid h4
  have E5 := Lib.hid h5
  have HQ0 := Lib.hid hq0
  have HQ1 := Lib.hid hq1
  have HQ2 := Lib.hid hq2
  have HM1 := Lib.hid hm1
  clear hnew h1 h2 h3 h4 h5 hq0 hq1 hq2
  unfold aggB at HN E1 E2 E3 E4 E5 ⊢
  have HG := Lib.hid (World.grownBy.refl w none)
  go_enter Try.func13, Try.ntmps13
  go_wp2_with (first | (refine wpList_boxed (T := 26) rfl rfl (cellsB k) rfl ?_; intro wa hsk g hr; clear hsk; replace HG := Lib.hid (grownBy_trans HG.out g); have Hk := Lib.hid (show Blk wa w.heap.size 26 k from hr); clear g hr) | (refine wpList_boxed (T := 27) rfl rfl (cellsB b) rfl ?_; intro wb hsb g hr; clear hsb; replace HG := Lib.hid (grownBy_trans HG.out g); replace Hk := Lib.hid (Hk.out.grown g (by simp)); have Hb := Lib.hid (show Blk wb wa.heap.size 27 b from hr); clear g hr) | (refine wpList_boxed (T := 27) rfl rfl (cellsB c) rfl ?_; intro wc hsc g hr; clear hsc; replace HG := Lib.hid (grownBy_trans HG.out g); replace Hk := Lib.hid (Hk.out.grown g (by simp)); replace Hb := Lib.hid (Hb.out.grown g (by simp)); have Hc := Lib.hid (show Blk wc wb.heap.size 27 c from hr); clear g hr) | (refine wpList_load_rowW (by rfl) 26 _ rfl (w.heap.size) rfl 26 (cellsB k) (0, 0) _ Hk.out Try.underlying26 rfl (by rw [size_key, cellsB_size, hkl]) ?_))
  refine (HN.out _).mono ?_
  rintro e w1 ⟨gc, rfl, hgc, hcip, g⟩
  have HC := Lib.hid hcip
  clear hcip hgc
  replace HG := Lib.hid (grownBy_trans HG.out g)
  replace Hk := Lib.hid (Hk.out.grown g (by simp))
  replace Hb := Lib.hid (Hb.out.grown g (by simp))
  replace Hc := Lib.hid (Hc.out.grown g (by simp))
  clear g
  go_wp2_with fail
  refine (awake_n _).mono ?_
  rintro e w2 ⟨rfl, g⟩
  replace HG := Lib.hid (grownBy_trans HG.out g)
  replace Hk := Lib.hid (Hk.out.grown g (by simp))
  replace Hb := Lib.hid (Hb.out.grown g (by simp))
  replace Hc := Lib.hid (Hc.out.grown g (by simp))
  replace HC := Lib.hid (HC.out.grown g)
  clear g
  go_wp2_with (first | (refine wpList_load_rowW (by rfl) 27 _ rfl (wa.heap.size) rfl 27 (cellsB b) (0, 0) _ Hb.out Try.underlying27 rfl (by rw [size_block, cellsB_size, hb]) ?_))
  refine (E1.out gc _ HC.out).mono ?_
  rintro e w3 ⟨rfl, g⟩
  replace HG := Lib.hid (grownBy_trans HG.out g)
  replace Hk := Lib.hid (Hk.out.grown g (by simp))
  replace Hb := Lib.hid (Hb.out.grown g (by simp))
  replace Hc := Lib.hid (Hc.out.grown g (by simp))
  replace HC := Lib.hid (HC.out.grown g)
  clear g
  go_wp2_with (first | (refine wpList_fresh rfl rfl rfl rfl rfl IB.out IBZ.out (by rw [IBS.out, cells_agg, cellsB_size]; rfl) (cellsB X) rfl rfl (by rw [cells_agg, cellsB_size, cellsB_size, hX]; rfl) (cellsB_one _) ?_; intro w4 hsn g hr; clear hsn; replace HG := Lib.hid (grownBy_trans HG.out g); replace Hk := Lib.hid (Hk.out.grown g (by simp)); replace Hb := Lib.hid (Hb.out.grown g (by simp)); replace Hc := Lib.hid (Hc.out.grown g (by simp)); replace HC := Lib.hid (HC.out.grown g); have Hx := Lib.hid (show Blk w4 w3.heap.size 27 X from hr); clear g hr) | (refine wpList_load_rowW (by rfl) 27 _ rfl (w3.heap.size) rfl 27 (cellsB X) (0, 0) _ Hx.out Try.underlying27 rfl (by rw [size_block, cellsB_size, hX]) ?_))
  refine (E2.out gc _ HC.out).mono ?_
  rintro e w5 ⟨rfl, g⟩
  replace HG := Lib.hid (grownBy_trans HG.out g)
  replace Hk := Lib.hid (Hk.out.grown g (by simp))
  replace Hb := Lib.hid (Hb.out.grown g (by simp))
  replace Hc := Lib.hid (Hc.out.grown g (by simp))
  replace Hx := Lib.hid (Hx.out.grown g (by simp))
  replace HC := Lib.hid (HC.out.grown g)
  clear g
  go_wp2_with (first | (refine wpList_fresh rfl rfl rfl rfl rfl IB.out IBZ.out (by rw [IBS.out, cells_agg, cellsB_size]; rfl) (cellsB b) rfl rfl (by rw [cells_agg, cellsB_size, cellsB_size, hb]; rfl) (cellsB_one _) ?_; intro w6 hsn g hr; clear hsn; replace HG := Lib.hid (grownBy_trans HG.out g); replace Hk := Lib.hid (Hk.out.grown g (by simp)); replace Hb := Lib.hid (Hb.out.grown g (by simp)); replace Hc := Lib.hid (Hc.out.grown g (by simp)); replace Hx := Lib.hid (Hx.out.grown g (by simp)); replace HC := Lib.hid (HC.out.grown g); have Hy := Lib.hid (show Blk w6 w5.heap.size 27 b from hr); clear g hr) | (refine wpList_load_rowW (by rfl) 27 _ rfl (wa.heap.size) rfl 27 (cellsB b) (0, 0) _ Hb.out Try.underlying27 rfl (by rw [size_block, cellsB_size, hb]) ?_))
  refine (E3.out gc _ HC.out).mono ?_
  rintro e w7 ⟨rfl, g⟩
  replace HG := Lib.hid (grownBy_trans HG.out g)
  replace Hk := Lib.hid (Hk.out.grown g (by simp))
  replace Hb := Lib.hid (Hb.out.grown g (by simp))
  replace Hc := Lib.hid (Hc.out.grown g (by simp))
  replace Hx := Lib.hid (Hx.out.grown g (by simp))
  replace Hy := Lib.hid (Hy.out.grown g (by simp))
  replace HC := Lib.hid (HC.out.grown g)
  clear g
  go_wp2_with (first | (refine wpList_fresh rfl rfl rfl rfl rfl IB.out IBZ.out (by rw [IBS.out, cells_agg, cellsB_size]; rfl) (cellsB Z) rfl rfl (by rw [cells_agg, cellsB_size, cellsB_size, hZ]; rfl) (cellsB_one _) ?_; intro w8 hsn g hr; clear hsn; replace HG := Lib.hid (grownBy_trans HG.out g); replace Hk := Lib.hid (Hk.out.grown g (by simp)); replace Hb := Lib.hid (Hb.out.grown g (by simp)); replace Hc := Lib.hid (Hc.out.grown g (by simp)); replace Hx := Lib.hid (Hx.out.grown g (by simp)); replace Hy := Lib.hid (Hy.out.grown g (by simp)); replace HC := Lib.hid (HC.out.grown g); have Hz := Lib.hid (show Blk w8 w7.heap.size 27 Z from hr); clear g hr) | (refine wpList_load_rowW (by rfl) 27 _ rfl (w7.heap.size) rfl 27 (cellsB Z) (0, 0) _ Hz.out Try.underlying27 rfl (by rw [size_block, cellsB_size, hZ]) ?_))
  refine (E4.out gc _ HC.out).mono ?_
  rintro e w9 ⟨rfl, g⟩
  replace HG := Lib.hid (grownBy_trans HG.out g)
  replace Hk := Lib.hid (Hk.out.grown g (by simp))
  replace Hb := Lib.hid (Hb.out.grown g (by simp))
  replace Hc := Lib.hid (Hc.out.grown g (by simp))
  replace Hx := Lib.hid (Hx.out.grown g (by simp))
  replace Hy := Lib.hid (Hy.out.grown g (by simp))
  replace Hz := Lib.hid (Hz.out.grown g (by simp))
  replace HC := Lib.hid (HC.out.grown g)
  clear g
  go_wp2_with (first | (refine wpList_fresh rfl rfl rfl rfl rfl IB.out IBZ.out (by rw [IBS.out, cells_agg, cellsB_size]; rfl) (cellsB b) rfl rfl (by rw [cells_agg, cellsB_size, cellsB_size, hb]; rfl) (cellsB_one _) ?_; intro w10 hsn g hr; clear hsn; replace HG := Lib.hid (grownBy_trans HG.out g); replace Hk := Lib.hid (Hk.out.grown g (by simp)); replace Hb := Lib.hid (Hb.out.grown g (by simp)); replace Hc := Lib.hid (Hc.out.grown g (by simp)); replace Hx := Lib.hid (Hx.out.grown g (by simp)); replace Hy := Lib.hid (Hy.out.grown g (by simp)); replace Hz := Lib.hid (Hz.out.grown g (by simp)); replace HC := Lib.hid (HC.out.grown g); have Hv := Lib.hid (show Blk w10 w9.heap.size 27 b from hr); clear g hr) | (refine wpList_load_rowW (by rfl) 27 _ rfl (wb.heap.size) rfl 27 (cellsB c) (0, 0) _ Hc.out Try.underlying27 rfl (by rw [size_block, cellsB_size, hcl]) ?_))
  refine (E5.out gc _ HC.out).mono ?_
  rintro e w11 ⟨rfl, g⟩
  replace HG := Lib.hid (grownBy_trans HG.out g)
  replace Hk := Lib.hid (Hk.out.grown g (by simp))
  replace Hb := Lib.hid (Hb.out.grown g (by simp))
  replace Hc := Lib.hid (Hc.out.grown g (by simp))
  replace Hx := Lib.hid (Hx.out.grown g (by simp))
  replace Hy := Lib.hid (Hy.out.grown g (by simp))
  replace Hz := Lib.hid (Hz.out.grown g (by simp))
  replace Hv := Lib.hid (Hv.out.grown g (by simp))
  replace HC := Lib.hid (HC.out.grown g)
  clear g
  go_upto_region 11 with (first | (refine wpList_fresh rfl rfl rfl rfl rfl IB.out IBZ.out (by rw [IBS.out, cells_agg, cellsB_size]; rfl) (cellsB Y) rfl rfl (by rw [cells_agg, cellsB_size, cellsB_size, hO]; rfl) (cellsB_one _) ?_; intro w12 hsn g hr; clear hsn; replace HG := Lib.hid (grownBy_trans HG.out g); replace Hk := Lib.hid (Hk.out.grown g (by simp)); replace Hb := Lib.hid (Hb.out.grown g (by simp)); replace Hc := Lib.hid (Hc.out.grown g (by simp)); replace Hx := Lib.hid (Hx.out.grown g (by simp)); replace Hy := Lib.hid (Hy.out.grown g (by simp)); replace Hz := Lib.hid (Hz.out.grown g (by simp)); replace Hv := Lib.hid (Hv.out.grown g (by simp)); replace HC := Lib.hid (HC.out.grown g); have Ho := Lib.hid (show Blk w12 w11.heap.size 27 Y from hr); clear g hr))
  have HKK : Hid (∀ u v : World, (w.grownBy u none ∧ Blk u wa.heap.size 27 b ∧ Blk u wb.heap.size 27 c ∧ Blk u w3.heap.size 27 X ∧ Blk u w5.heap.size 27 b ∧ Blk u w9.heap.size 27 b ∧ Blk u w11.heap.size 27 Y) → u.grownBy v none → (w.grownBy v none ∧ Blk v wa.heap.size 27 b ∧ Blk v wb.heap.size 27 c ∧ Blk v w3.heap.size 27 X ∧ Blk v w5.heap.size 27 b ∧ Blk v w9.heap.size 27 b ∧ Blk v w11.heap.size 27 Y)) :=
    Lib.hid (fun u v h hg => ⟨grownBy_trans h.1 hg, h.2.1.grown hg (by simp), h.2.2.1.grown hg (by simp), h.2.2.2.1.grown hg (by simp), h.2.2.2.2.1.grown hg (by simp), h.2.2.2.2.2.1.grown hg (by simp), h.2.2.2.2.2.2.grown hg (by simp)⟩)
  refine wp_regionS (fun u => w.grownBy u none ∧ Blk u wa.heap.size 27 b ∧ Blk u wb.heap.size 27 c ∧ Blk u w3.heap.size 27 X ∧ Blk u w5.heap.size 27 b ∧ Blk u w9.heap.size 27 b ∧ Blk u w11.heap.size 27 Y) (by kernel_rfl) (HKK.out _ _ ⟨HG.out, Hb.out, Hc.out, Hx.out, Hy.out, Hv.out, Ho.out⟩ (grownBy_drewN w12 1 none)) ?_
  refine wpS_take 0 (v := .agg (cellsB b)) (oi := { dst := some 74, op := Op.load 27 (Operand.tmp 10), type := 27, pos := "outright.go:118", after := #[], guard := none }) rfl (by kernel_rfl) (by kernel_rfl) (by kernel_rfl) (fun _ _ _ h => h) (YS.val (by rfl) (fun u hS => run_load_op u _ 27 _ rfl (w5.heap.size) rfl 27 (cellsB b) (hS.2.2.2.2.1) Try.underlying27 rfl (by rw [size_block, cellsB_size, hb]))) ?_
  simp only [Act.put, List.setIfInBounds_toArray, List.set_cons_zero, List.set_cons_succ]
  refine wpS_take 1 (v := .agg (cellsB b)) (oi := { dst := some 75, op := Op.load 27 (Operand.tmp 4), type := 27, pos := "outright.go:118", after := #[], guard := none }) rfl (by kernel_rfl) (by kernel_rfl) (by kernel_rfl) (fun _ _ _ h => h) (YS.val (by rfl) (fun u hS => run_load_op u _ 27 _ rfl (wa.heap.size) rfl 27 (cellsB b) (hS.2.1) Try.underlying27 rfl (by rw [size_block, cellsB_size, hb]))) ?_
  simp only [Act.put, List.setIfInBounds_toArray, List.set_cons_zero, List.set_cons_succ]
  refine wpS_take 2 (v := .bool true) (oi := { dst := some 76, op := Op.binOp BinOp.eql 27 (Operand.tmp 74) (Operand.tmp 75) 27, type := 4, pos := "outright.go:118", after := #[{ on := 0, ground := Ground.data }, { on := 1, ground := Ground.data }], guard := none }) rfl (by kernel_rfl) (by kernel_rfl) (by kernel_rfl) (fun _ _ _ h => h) (YS.val (by rfl) (fun u _ => run_eql_op u _ HM1.out (x := .tmp 74) (y := .tmp 75) rfl (cellsB b) (cellsB b) rfl rfl (HQ0.out u))) ?_
  simp only [Act.put, List.setIfInBounds_toArray, List.set_cons_zero, List.set_cons_succ]
  refine wpS_take 3 (v := .bool true) (oi := { dst := some 77, op := Op.move (Operand.tmp 76), type := 4, pos := "outright.go:118", after := #[{ on := 2, ground := Ground.data }], guard := none }) rfl (by kernel_rfl) (by kernel_rfl) (by kernel_rfl) (fun _ _ _ h => h) (YS.val (by rfl) (fun _ _ => rfl)) ?_
  simp only [Act.put, List.setIfInBounds_toArray, List.set_cons_zero, List.set_cons_succ]
  refine wpS_take 4 (v := .agg (cellsB b)) (oi := { dst := some 78, op := Op.load 27 (Operand.tmp 14), type := 27, pos := "outright.go:118", after := #[{ on := 3, ground := Ground.guard }], guard := some (3, true) }) rfl (by kernel_rfl) (by kernel_rfl) (by kernel_rfl) (fun _ _ _ h => h) (YS.val (by rfl) (fun u hS => run_load_op u _ 27 _ rfl (w9.heap.size) rfl 27 (cellsB b) (hS.2.2.2.2.2.1) Try.underlying27 rfl (by rw [size_block, cellsB_size, hb]))) ?_
  simp only [Act.put, List.setIfInBounds_toArray, List.set_cons_zero, List.set_cons_succ]
  refine wpS_take 5 (v := .agg (cellsB b)) (oi := { dst := some 79, op := Op.load 27 (Operand.tmp 4), type := 27, pos := "outright.go:118", after := #[{ on := 3, ground := Ground.guard }], guard := some (3, true) }) rfl (by kernel_rfl) (by kernel_rfl) (by kernel_rfl) (fun _ _ _ h => h) (YS.val (by rfl) (fun u hS => run_load_op u _ 27 _ rfl (wa.heap.size) rfl 27 (cellsB b) (hS.2.1) Try.underlying27 rfl (by rw [size_block, cellsB_size, hb]))) ?_
  simp only [Act.put, List.setIfInBounds_toArray, List.set_cons_zero, List.set_cons_succ]
  refine wpS_take 6 (v := .bool true) (oi := { dst := some 80, op := Op.binOp BinOp.eql 27 (Operand.tmp 78) (Operand.tmp 79) 27, type := 4, pos := "outright.go:118", after := #[{ on := 4, ground := Ground.data }, { on := 5, ground := Ground.data }, { on := 3, ground := Ground.guard }], guard := some (3, true) }) rfl (by kernel_rfl) (by kernel_rfl) (by kernel_rfl) (fun _ _ _ h => h) (YS.val (by rfl) (fun u _ => run_eql_op u _ HM1.out (x := .tmp 78) (y := .tmp 79) rfl (cellsB b) (cellsB b) rfl rfl (HQ0.out u))) ?_
  simp only [Act.put, List.setIfInBounds_toArray, List.set_cons_zero, List.set_cons_succ]
  refine wpS_take 7 (v := .bool true) (oi := { dst := some 81, op := Op.pick (Operand.tmp 77) (Operand.tmp 80) (Operand.const (Value.bool false)), type := 4, pos := "outright.go:118", after := #[{ on := 3, ground := Ground.data }, { on := 6, ground := Ground.data }], guard := none }) rfl (by kernel_rfl) (by kernel_rfl) (by kernel_rfl) (fun _ _ _ h => h) (YS.val (by rfl) (fun _ _ => rfl)) ?_
  simp only [Act.put, List.setIfInBounds_toArray, List.set_cons_zero, List.set_cons_succ]
  refine wpS_take 8 (v := .bool true) (oi := { dst := some 82, op := Op.move (Operand.tmp 81), type := 4, pos := "outright.go:118", after := #[{ on := 7, ground := Ground.data }, { on := 3, ground := Ground.chain }], guard := none }) rfl (by kernel_rfl) (by kernel_rfl) (by kernel_rfl) (fun _ _ _ h => h) (YS.val (by rfl) (fun _ _ => rfl)) ?_
  simp only [Act.put, List.setIfInBounds_toArray, List.set_cons_zero, List.set_cons_succ]
  refine wpS_take 9 (v := .agg (cellsB Y)) (oi := { dst := some 83, op := Op.load 27 (Operand.tmp 16), type := 27, pos := "outright.go:118", after := #[{ on := 8, ground := Ground.guard }], guard := some (8, true) }) rfl (by kernel_rfl) (by kernel_rfl) (by kernel_rfl) (fun _ _ _ h => h) (YS.val (by rfl) (fun u hS => run_load_op u _ 27 _ rfl (w11.heap.size) rfl 27 (cellsB Y) (hS.2.2.2.2.2.2) Try.underlying27 rfl (by rw [size_block, cellsB_size, hO]))) ?_
  simp only [Act.put, List.setIfInBounds_toArray, List.set_cons_zero, List.set_cons_succ]
  refine wpS_take 10 (v := .agg (cellsB X)) (oi := { dst := some 84, op := Op.load 27 (Operand.tmp 8), type := 27, pos := "outright.go:118", after := #[{ on := 8, ground := Ground.guard }], guard := some (8, true) }) rfl (by kernel_rfl) (by kernel_rfl) (by kernel_rfl) (fun _ _ _ h => h) (YS.val (by rfl) (fun u hS => run_load_op u _ 27 _ rfl (w3.heap.size) rfl 27 (cellsB X) (hS.2.2.2.1) Try.underlying27 rfl (by rw [size_block, cellsB_size, hX]))) ?_
  simp only [Act.put, List.setIfInBounds_toArray, List.set_cons_zero, List.set_cons_succ]
  refine wpS_take 11 (v := .bool p) (oi := { dst := some 85, op := Op.binOp BinOp.eql 27 (Operand.tmp 83) (Operand.tmp 84) 27, type := 4, pos := "outright.go:118", after := #[{ on := 9, ground := Ground.data }, { on := 10, ground := Ground.data }, { on := 8, ground := Ground.guard }], guard := some (8, true) }) rfl (by kernel_rfl) (by kernel_rfl) (by kernel_rfl) (fun _ _ _ h => h) (YS.val (by rfl) (fun u _ => run_eql_op u _ HM1.out (x := .tmp 83) (y := .tmp 84) rfl (cellsB Y) (cellsB X) rfl rfl (HQ1.out u))) ?_
  simp only [Act.put, List.setIfInBounds_toArray, List.set_cons_zero, List.set_cons_succ]
  refine wpS_take 12 (v := .agg (cellsB c)) (oi := { dst := some 86, op := Op.load 27 (Operand.tmp 5), type := 27, pos := "outright.go:118", after := #[{ on := 8, ground := Ground.guard }], guard := some (8, true) }) rfl (by kernel_rfl) (by kernel_rfl) (by kernel_rfl) (fun _ _ _ h => h) (YS.val (by rfl) (fun u hS => run_load_op u _ 27 _ rfl (wb.heap.size) rfl 27 (cellsB c) (hS.2.2.1) Try.underlying27 rfl (by rw [size_block, cellsB_size, hcl]))) ?_
  simp only [Act.put, List.setIfInBounds_toArray, List.set_cons_zero, List.set_cons_succ]
  refine wpS_take 13 (v := .agg (cellsB b)) (oi := { dst := some 87, op := Op.load 27 (Operand.tmp 4), type := 27, pos := "outright.go:118", after := #[{ on := 8, ground := Ground.guard }], guard := some (8, true) }) rfl (by kernel_rfl) (by kernel_rfl) (by kernel_rfl) (fun _ _ _ h => h) (YS.val (by rfl) (fun u hS => run_load_op u _ 27 _ rfl (wa.heap.size) rfl 27 (cellsB b) (hS.2.1) Try.underlying27 rfl (by rw [size_block, cellsB_size, hb]))) ?_
  simp only [Act.put, List.setIfInBounds_toArray, List.set_cons_zero, List.set_cons_succ]
  refine wpS_take 14 (v := .bool p) (oi := { dst := some 88, op := Op.binOp BinOp.eql 27 (Operand.tmp 86) (Operand.tmp 87) 27, type := 4, pos := "outright.go:118", after := #[{ on := 12, ground := Ground.data }, { on := 13, ground := Ground.data }, { on := 8, ground := Ground.guard }], guard := some (8, true) }) rfl (by kernel_rfl) (by kernel_rfl) (by kernel_rfl) (fun _ _ _ h => h) (YS.val (by rfl) (fun u _ => run_eql_op u _ HM1.out (x := .tmp 86) (y := .tmp 87) rfl (cellsB c) (cellsB b) rfl rfl (HQ2.out u))) ?_
  simp only [Act.put, List.setIfInBounds_toArray, List.set_cons_zero, List.set_cons_succ]
  refine wpS_take 15 (v := .bool true) (oi := { dst := some 89, op := Op.binOp BinOp.eql 4 (Operand.tmp 85) (Operand.tmp 88) 4, type := 4, pos := "outright.go:118", after := #[{ on := 11, ground := Ground.data }, { on := 14, ground := Ground.data }, { on := 8, ground := Ground.guard }], guard := some (8, true) }) rfl (by kernel_rfl) (by kernel_rfl) (by kernel_rfl) (fun _ _ _ h => h) (YS.val (by rfl) (fun _ _ => by cases p <;> go_simp)) ?_
  simp only [Act.put, List.setIfInBounds_toArray, List.set_cons_zero, List.set_cons_succ]
  refine wpS_take 16 (v := .bool true) (oi := { dst := some 90, op := Op.pick (Operand.tmp 82) (Operand.tmp 89) (Operand.const (Value.bool false)), type := 4, pos := "outright.go:118", after := #[{ on := 8, ground := Ground.data }, { on := 15, ground := Ground.data }], guard := none }) rfl (by kernel_rfl) (by kernel_rfl) (by kernel_rfl) (fun _ _ _ h => h) (YS.val (by rfl) (fun _ _ => rfl)) ?_
  simp only [Act.put, List.setIfInBounds_toArray, List.set_cons_zero, List.set_cons_succ]
  refine wpS_take 17 (v := .bool true) (oi := { dst := some 6, op := Op.assign (Operand.tmp 90), type := 4, pos := "outright.go:118", after := #[{ on := 16, ground := Ground.data }, { on := 8, ground := Ground.chain }, { on := 0, ground := Ground.phase }, { on := 1, ground := Ground.phase }, { on := 2, ground := Ground.phase }, { on := 3, ground := Ground.phase }, { on := 4, ground := Ground.phase }, { on := 5, ground := Ground.phase }, { on := 6, ground := Ground.phase }, { on := 7, ground := Ground.phase }, { on := 8, ground := Ground.phase }, { on := 9, ground := Ground.phase }, { on := 10, ground := Ground.phase }, { on := 11, ground := Ground.phase }, { on := 12, ground := Ground.phase }, { on := 13, ground := Ground.phase }, { on := 14, ground := Ground.phase }, { on := 15, ground := Ground.phase }, { on := 16, ground := Ground.phase }], guard := none }) rfl (by kernel_rfl) (by kernel_rfl) (by kernel_rfl) (fun _ _ _ h => h) (YS.val (by rfl) (fun _ _ => rfl)) ?_
  simp only [Act.put, List.setIfInBounds_toArray, List.set_cons_zero, List.set_cons_succ]
  refine wpS_done (by kernel_rfl) (fun wz hw5 => ?_) _
  have HW5 := Lib.hid hw5.1
  clear hw5
  go_wp2_with fail
  refine bodyPost_ret (by simp [*, results, Try.results13, go_sem]; try rfl) rfl ?_
  exact ⟨rfl, HW5.out⟩

end Go.Proofs.Ytlnmglddialhjaa
