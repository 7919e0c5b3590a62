/- The law CutAgain. -/
import Derived.Test.YtfboddnpkaiifaaCutAwake
import Derived.Test.YtfboddnpkaiifaaCutLaws
import Derived.Test.YtfboddnpkaiifaaCutRefFits
import Derived.Test.YtfboddnpkaiifaaRegG
namespace Go.Proofs.Ytfboddnpkaiifaa
open Go.RowKit

set_option maxRecDepth 100000 in
set_option maxHeartbeats 4000000 in
theorem again_walk (K N G Z : Int) (hG : G ≤ 9223372036854775807) (s : Sh) (hs : s.Wf) (w : World) : Calls Try.prog 6 #[.int .i64 K, .int .i64 N, .int .i64 G, .int .i64 Z, s.val] w fun e w' => e = .returned (.bool true) ∧ w.grownBy w' none := by
  have h1 := fun w => again_n K N G Z hG w
  have h2 := fun w => refAgain_n K N G Z w
  have hTwf := ag_wf K N G Z
  have hf1 := fun w => fits_n s hs w
  have hf2 := fun w => refFits_n s hs w
  have hf3 := fun w => fits_n (agS K N G Z) hTwf w
  have hft : decide (fits (agS K N G Z)) = decide ((agE K N G Z : Int) = 0) := decide_eq_decide.2 (by rw [ag_fits_iff]; omega)
  have hq := fun w => (eq_same hTwf w).1
  have haw := fun w => awake_n w
  generalize agS K N G Z = T at h1 h2 hf3 hft hq
  generalize agE K N G Z = E at h1 h2 hft
  generalize decide (fits s) = F at hf1 hf2
  generalize decide (fits T) = FT at hf3 hft
  obtain ⟨i, hi, hz, hsz⟩ := shape_info
  have HI := Lib.hid hi
  have HZ := Lib.hid hz
  have HS := Lib.hid hsz
  have HGU := Lib.hid eq_guard_sh
  clear hi hz hsz
  have H1 := Lib.hid h1
  have H2 := Lib.hid h2
  have HF1 := Lib.hid hf1
  have HF2 := Lib.hid hf2
  have HF3 := Lib.hid hf3
  have HFT := Lib.hid hft.symm
  have HQ := Lib.hid hq
  have HAW := Lib.hid haw
  clear h1 h2 hf1 hf2 hf3 hft hq haw hTwf hs hG
  obtain ⟨k, n, g, z, sg, t, b, l⟩ := s
  obtain ⟨k2, n2, g2, z2, sg2, t2, b2, l2⟩ := T
  unfold Sh.val at H1 H2 HF1 HF2 HF3 HQ ⊢
  have HP0 := Lib.hid (show Row _ _ _ _ from heap_alloc_new w (.cells #[.int .i64 k, .int .i64 n, .int .i64 g, .int .i64 z, .int .i64 sg, .int .i64 t, .int .i64 b, .int .i64 l] 47))
  have HG0 := Lib.hid (World.grownBy_alloc w (.cells #[.int .i64 k, .int .i64 n, .int .i64 g, .int .i64 z, .int .i64 sg, .int .i64 t, .int .i64 b, .int .i64 l] 47) none)
  go_enter Try.func6, Try.ntmps6
  go_wp2_with fail
  refine (H1.out _).mono ?_
  rintro e w1 ⟨rfl, hg1⟩
  have HG1 := Lib.hid (grownBy_trans HG0.out hg1)
  have HP1 := Lib.hid (HP0.out.grown hg1)
  clear hg1
  go_wp2_with (first | (refine wpList_fresh rfl rfl rfl rfl rfl HI.out HZ.out (by rw [HS.out]; rfl) #[.int .i64 k2, .int .i64 n2, .int .i64 g2, .int .i64 z2, .int .i64 sg2, .int .i64 t2, .int .i64 b2, .int .i64 l2] rfl rfl rfl (by simp [Value.oneCell']) ?_; intro w2 hs2 hg2 hr2; clear hs2; have HG2 := Lib.hid (grownBy_trans HG1.out hg2); have HP2 := Lib.hid (HP1.out.grown hg2); have HA2 := Lib.hid hr2; clear hg2 hr2))
  refine (H2.out _).mono ?_
  rintro e w3 ⟨rfl, hg3⟩
  have HG3 := Lib.hid (grownBy_trans HG2.out hg3)
  have HP3 := Lib.hid (HP2.out.grown hg3)
  have HA3 := Lib.hid (HA2.out.grown hg3)
  clear hg3
  go_upto_region 3 with (first | (refine wpList_fresh rfl rfl rfl rfl rfl HI.out HZ.out (by rw [HS.out]; rfl) #[.int .i64 k2, .int .i64 n2, .int .i64 g2, .int .i64 z2, .int .i64 sg2, .int .i64 t2, .int .i64 b2, .int .i64 l2] rfl rfl rfl (by simp [Value.oneCell']) ?_; intro w4 hs4 hg4 hr4; clear hs4; have HG4 := Lib.hid (grownBy_trans HG3.out hg4); have HP4 := Lib.hid (HP3.out.grown hg4); have HA4 := Lib.hid (HA3.out.grown hg4); have HB4 := Lib.hid hr4; clear hg4 hr4))
  have HK : Hid (∀ u v : World, (w.grownBy u none ∧ Row u w.heap.size 47 #[.int .i64 k, .int .i64 n, .int .i64 g, .int .i64 z, .int .i64 sg, .int .i64 t, .int .i64 b, .int .i64 l] ∧ Row u w1.heap.size 47 #[.int .i64 k2, .int .i64 n2, .int .i64 g2, .int .i64 z2, .int .i64 sg2, .int .i64 t2, .int .i64 b2, .int .i64 l2] ∧ Row u w3.heap.size 47 #[.int .i64 k2, .int .i64 n2, .int .i64 g2, .int .i64 z2, .int .i64 sg2, .int .i64 t2, .int .i64 b2, .int .i64 l2]) → u.grownBy v none → (w.grownBy v none ∧ Row v w.heap.size 47 #[.int .i64 k, .int .i64 n, .int .i64 g, .int .i64 z, .int .i64 sg, .int .i64 t, .int .i64 b, .int .i64 l] ∧ Row v w1.heap.size 47 #[.int .i64 k2, .int .i64 n2, .int .i64 g2, .int .i64 z2, .int .i64 sg2, .int .i64 t2, .int .i64 b2, .int .i64 l2] ∧ Row v w3.heap.size 47 #[.int .i64 k2, .int .i64 n2, .int .i64 g2, .int .i64 z2, .int .i64 sg2, .int .i64 t2, .int .i64 b2, .int .i64 l2])) :=
    Lib.hid (fun u v h hg => ⟨grownBy_trans h.1 hg, h.2.1.grown hg, h.2.2.1.grown hg, h.2.2.2.grown hg⟩)
  refine wp_regionS (fun u => w.grownBy u none ∧ Row u w.heap.size 47 #[.int .i64 k, .int .i64 n, .int .i64 g, .int .i64 z, .int .i64 sg, .int .i64 t, .int .i64 b, .int .i64 l] ∧ Row u w1.heap.size 47 #[.int .i64 k2, .int .i64 n2, .int .i64 g2, .int .i64 z2, .int .i64 sg2, .int .i64 t2, .int .i64 b2, .int .i64 l2] ∧ Row u w3.heap.size 47 #[.int .i64 k2, .int .i64 n2, .int .i64 g2, .int .i64 z2, .int .i64 sg2, .int .i64 t2, .int .i64 b2, .int .i64 l2]) (by kernel_rfl) ⟨grownBy_trans HG4.out (grownBy_drewN w4 1 none), HP4.out, HA4.out, HB4.out⟩ ?_
  refine wpS_take 0 (v := .agg #[.int .i64 k2, .int .i64 n2, .int .i64 g2, .int .i64 z2, .int .i64 sg2, .int .i64 t2, .int .i64 b2, .int .i64 l2]) (oi := { dst := some 31, op := Op.load 47 (Operand.tmp 11), type := 47, pos := "law.go:29", after := #[], guard := none }) rfl (by kernel_rfl) (by kernel_rfl) (by kernel_rfl) (fun _ _ _ h => h) (YS.val (by rfl) (fun w' hS => run_load_op w' _ 47 _ rfl w1.heap.size rfl 47 #[.int .i64 k2, .int .i64 n2, .int .i64 g2, .int .i64 z2, .int .i64 sg2, .int .i64 t2, .int .i64 b2, .int .i64 l2] hS.2.2.1 Try.underlying47 rfl size_shape)) ?_
  simp only [Act.put, List.setIfInBounds_toArray, List.set_cons_zero, List.set_cons_succ]
  refine wpS_take 1 (v := .agg #[.int .i64 k2, .int .i64 n2, .int .i64 g2, .int .i64 z2, .int .i64 sg2, .int .i64 t2, .int .i64 b2, .int .i64 l2]) (oi := { dst := some 32, op := Op.load 47 (Operand.tmp 13), type := 47, pos := "law.go:29", after := #[], guard := none }) rfl (by kernel_rfl) (by kernel_rfl) (by kernel_rfl) (fun _ _ _ h => h) (YS.val (by rfl) (fun w' hS => run_load_op w' _ 47 _ rfl w3.heap.size rfl 47 #[.int .i64 k2, .int .i64 n2, .int .i64 g2, .int .i64 z2, .int .i64 sg2, .int .i64 t2, .int .i64 b2, .int .i64 l2] hS.2.2.2 Try.underlying47 rfl size_shape)) ?_
  simp only [Act.put, List.setIfInBounds_toArray, List.set_cons_zero, List.set_cons_succ]
  refine wpS_take 2 (v := .bool true) (oi := { dst := some 33, op := Op.binOp BinOp.eql 47 (Operand.tmp 31) (Operand.tmp 32) 47, type := 4, pos := "law.go:29", after := #[{ on := 0, ground := Ground.data }, { on := 1, ground := Ground.data }], guard := none }) rfl (by kernel_rfl) (by kernel_rfl) (by kernel_rfl) (fun _ _ _ h => h) (YS.val (by rfl) (fun w' _ => run_eql_op w' _ HGU.out (x := .tmp 31) (y := .tmp 32) rfl #[.int .i64 k2, .int .i64 n2, .int .i64 g2, .int .i64 z2, .int .i64 sg2, .int .i64 t2, .int .i64 b2, .int .i64 l2] #[.int .i64 k2, .int .i64 n2, .int .i64 g2, .int .i64 z2, .int .i64 sg2, .int .i64 t2, .int .i64 b2, .int .i64 l2] rfl rfl (HQ.out w'))) ?_
  simp only [Act.put, List.setIfInBounds_toArray, List.set_cons_zero, List.set_cons_succ]
  refine wpS_take 3 (v := .bool true) (oi := { dst := some 34, op := Op.move (Operand.tmp 33), type := 4, pos := "law.go:29", after := #[{ on := 2, ground := Ground.data }], guard := none }) rfl (by kernel_rfl) (by kernel_rfl) (by kernel_rfl) (fun _ _ _ h => h) (YS.val (by rfl) (fun _ _ => rfl)) ?_
  simp only [Act.put, List.setIfInBounds_toArray, List.set_cons_zero, List.set_cons_succ]
  refine wpS_take 4 (v := .int .i64 (E : Int)) (oi := { dst := some 35, op := Op.move (Operand.tmp 12), type := 25, pos := "law.go:29", after := #[{ on := 3, ground := Ground.guard }], guard := some (3, true) }) rfl (by kernel_rfl) (by kernel_rfl) (by kernel_rfl) (fun _ _ _ h => h) (YS.val (by rfl) (fun _ _ => rfl)) ?_
  simp only [Act.put, List.setIfInBounds_toArray, List.set_cons_zero, List.set_cons_succ]
  refine wpS_take 5 (v := .int .i64 (E : Int)) (oi := { dst := some 36, op := Op.move (Operand.tmp 14), type := 25, pos := "law.go:29", after := #[{ on := 3, ground := Ground.guard }], guard := some (3, true) }) rfl (by kernel_rfl) (by kernel_rfl) (by kernel_rfl) (fun _ _ _ h => h) (YS.val (by rfl) (fun _ _ => rfl)) ?_
  simp only [Act.put, List.setIfInBounds_toArray, List.set_cons_zero, List.set_cons_succ]
  refine wpS_take 6 (v := .bool true) (oi := { dst := some 37, op := Op.binOp BinOp.eql 25 (Operand.tmp 35) (Operand.tmp 36) 25, type := 4, pos := "law.go:29", after := #[{ on := 4, ground := Ground.data }, { on := 5, ground := Ground.data }, { on := 3, ground := Ground.guard }], guard := some (3, true) }) rfl (by kernel_rfl) (by kernel_rfl) (by kernel_rfl) (fun _ _ _ h => h) (YS.val (by rfl) (fun _ _ => by go_simp)) ?_
  simp only [Act.put, List.setIfInBounds_toArray, List.set_cons_zero, List.set_cons_succ]
  refine wpS_take 7 (v := .bool true) (oi := { dst := some 38, op := Op.pick (Operand.tmp 34) (Operand.tmp 37) (Operand.const (Value.bool false)), type := 4, pos := "law.go:29", after := #[{ on := 3, ground := Ground.data }, { on := 6, ground := Ground.data }], guard := none }) rfl (by kernel_rfl) (by kernel_rfl) (by kernel_rfl) (fun _ _ _ h => h) (YS.val (by rfl) (fun _ _ => rfl)) ?_
  simp only [Act.put, List.setIfInBounds_toArray, List.set_cons_zero, List.set_cons_succ]
  refine wpS_take 8 (v := .bool true) (oi := { dst := some 39, op := Op.move (Operand.tmp 38), type := 4, pos := "law.go:29", after := #[{ on := 7, ground := Ground.data }, { on := 3, ground := Ground.chain }], guard := none }) rfl (by kernel_rfl) (by kernel_rfl) (by kernel_rfl) (fun _ _ _ h => h) (YS.val (by rfl) (fun _ _ => rfl)) ?_
  simp only [Act.put, List.setIfInBounds_toArray, List.set_cons_zero, List.set_cons_succ]
  refine wpS_take 9 (v := .agg #[.int .i64 k, .int .i64 n, .int .i64 g, .int .i64 z, .int .i64 sg, .int .i64 t, .int .i64 b, .int .i64 l]) (oi := { dst := some 40, op := Op.load 47 (Operand.tmp 9), type := 47, pos := "law.go:29", after := #[{ on := 8, ground := Ground.guard }], guard := some (8, true) }) rfl (by kernel_rfl) (by kernel_rfl) (by kernel_rfl) (fun _ _ _ h => h) (YS.val (by rfl) (fun w' hS => run_load_op w' _ 47 _ rfl w.heap.size rfl 47 #[.int .i64 k, .int .i64 n, .int .i64 g, .int .i64 z, .int .i64 sg, .int .i64 t, .int .i64 b, .int .i64 l] hS.2.1 Try.underlying47 rfl size_shape)) ?_
  simp only [Act.put, List.setIfInBounds_toArray, List.set_cons_zero, List.set_cons_succ]
  refine wpS_take 10 (v := .bool F) (oi := { dst := some 41, op := Op.call { callee := Callee.value (Operand.func 36), args := #[Operand.tmp 40], argTypes := #[47] }, type := 4, pos := "law.go:29", after := #[{ on := 9, ground := Ground.data }, { on := 8, ground := Ground.chain }, { on := 8, ground := Ground.guard }], guard := some (8, true) }) rfl (by kernel_rfl) (by kernel_rfl) (by kernel_rfl) (fun _ _ _ h => h) (YS.grow (f := 36) (args := #[.agg #[.int .i64 k, .int .i64 n, .int .i64 g, .int .i64 z, .int .i64 sg, .int .i64 t, .int .i64 b, .int .i64 l]]) (by rfl) (fun w => by go_simp) HK.out (fun w => HF1.out w)) ?_
  simp only [Act.put, List.setIfInBounds_toArray, List.set_cons_zero, List.set_cons_succ]
  refine wpS_take 11 (v := .agg #[.int .i64 k, .int .i64 n, .int .i64 g, .int .i64 z, .int .i64 sg, .int .i64 t, .int .i64 b, .int .i64 l]) (oi := { dst := some 42, op := Op.load 47 (Operand.tmp 9), type := 47, pos := "law.go:29", after := #[{ on := 8, ground := Ground.guard }], guard := some (8, true) }) rfl (by kernel_rfl) (by kernel_rfl) (by kernel_rfl) (fun _ _ _ h => h) (YS.val (by rfl) (fun w' hS => run_load_op w' _ 47 _ rfl w.heap.size rfl 47 #[.int .i64 k, .int .i64 n, .int .i64 g, .int .i64 z, .int .i64 sg, .int .i64 t, .int .i64 b, .int .i64 l] hS.2.1 Try.underlying47 rfl size_shape)) ?_
  simp only [Act.put, List.setIfInBounds_toArray, List.set_cons_zero, List.set_cons_succ]
  refine wpS_take 12 (v := .bool F) (oi := { dst := some 43, op := Op.call { callee := Callee.value (Operand.func 37), args := #[Operand.tmp 42], argTypes := #[47] }, type := 4, pos := "law.go:29", after := #[{ on := 11, ground := Ground.data }, { on := 10, ground := Ground.chain }, { on := 8, ground := Ground.guard }], guard := some (8, true) }) rfl (by kernel_rfl) (by kernel_rfl) (by kernel_rfl) (fun _ _ _ h => h) (YS.grow (f := 37) (args := #[.agg #[.int .i64 k, .int .i64 n, .int .i64 g, .int .i64 z, .int .i64 sg, .int .i64 t, .int .i64 b, .int .i64 l]]) (by rfl) (fun w => by go_simp) HK.out (fun w => HF2.out w)) ?_
  simp only [Act.put, List.setIfInBounds_toArray, List.set_cons_zero, List.set_cons_succ]
  refine wpS_take 13 (v := .bool true) (oi := { dst := some 44, op := Op.binOp BinOp.eql 4 (Operand.tmp 41) (Operand.tmp 43) 4, type := 4, pos := "law.go:29", after := #[{ on := 10, ground := Ground.data }, { on := 12, ground := Ground.data }, { on := 8, ground := Ground.guard }], guard := some (8, true) }) rfl (by kernel_rfl) (by kernel_rfl) (by kernel_rfl) (fun _ _ _ h => h) (YS.val (by rfl) (fun _ _ => by cases F <;> go_simp)) ?_
  simp only [Act.put, List.setIfInBounds_toArray, List.set_cons_zero, List.set_cons_succ]
  refine wpS_take 14 (v := .bool true) (oi := { dst := some 45, op := Op.pick (Operand.tmp 39) (Operand.tmp 44) (Operand.const (Value.bool false)), type := 4, pos := "law.go:29", after := #[{ on := 8, ground := Ground.data }, { on := 13, ground := Ground.data }], guard := none }) rfl (by kernel_rfl) (by kernel_rfl) (by kernel_rfl) (fun _ _ _ h => h) (YS.val (by rfl) (fun _ _ => rfl)) ?_
  simp only [Act.put, List.setIfInBounds_toArray, List.set_cons_zero, List.set_cons_succ]
  refine wpS_take 15 (v := .bool true) (oi := { dst := some 46, op := Op.move (Operand.tmp 45), type := 4, pos := "law.go:29", after := #[{ on := 14, ground := Ground.data }, { on := 12, ground := Ground.chain }], guard := none }) rfl (by kernel_rfl) (by kernel_rfl) (by kernel_rfl) (fun _ _ _ h => h) (YS.val (by rfl) (fun _ _ => rfl)) ?_
  simp only [Act.put, List.setIfInBounds_toArray, List.set_cons_zero, List.set_cons_succ]
  refine wpS_take 16 (v := .agg #[.int .i64 k2, .int .i64 n2, .int .i64 g2, .int .i64 z2, .int .i64 sg2, .int .i64 t2, .int .i64 b2, .int .i64 l2]) (oi := { dst := some 47, op := Op.load 47 (Operand.tmp 11), type := 47, pos := "law.go:29", after := #[{ on := 15, ground := Ground.guard }], guard := some (15, true) }) rfl (by kernel_rfl) (by kernel_rfl) (by kernel_rfl) (fun _ _ _ h => h) (YS.val (by rfl) (fun w' hS => run_load_op w' _ 47 _ rfl w1.heap.size rfl 47 #[.int .i64 k2, .int .i64 n2, .int .i64 g2, .int .i64 z2, .int .i64 sg2, .int .i64 t2, .int .i64 b2, .int .i64 l2] hS.2.2.1 Try.underlying47 rfl size_shape)) ?_
  simp only [Act.put, List.setIfInBounds_toArray, List.set_cons_zero, List.set_cons_succ]
  refine wpS_take 17 (v := .bool FT) (oi := { dst := some 48, op := Op.call { callee := Callee.value (Operand.func 36), args := #[Operand.tmp 47], argTypes := #[47] }, type := 4, pos := "law.go:29", after := #[{ on := 16, ground := Ground.data }, { on := 15, ground := Ground.chain }, { on := 15, ground := Ground.guard }], guard := some (15, true) }) rfl (by kernel_rfl) (by kernel_rfl) (by kernel_rfl) (fun _ _ _ h => h) (YS.grow (f := 36) (args := #[.agg #[.int .i64 k2, .int .i64 n2, .int .i64 g2, .int .i64 z2, .int .i64 sg2, .int .i64 t2, .int .i64 b2, .int .i64 l2]]) (by rfl) (fun w => by go_simp) HK.out (fun w => HF3.out w)) ?_
  simp only [Act.put, List.setIfInBounds_toArray, List.set_cons_zero, List.set_cons_succ]
  refine wpS_take 18 (v := .int .i64 (E : Int)) (oi := { dst := some 49, op := Op.move (Operand.tmp 14), type := 25, pos := "law.go:29", after := #[{ on := 15, ground := Ground.guard }], guard := some (15, true) }) rfl (by kernel_rfl) (by kernel_rfl) (by kernel_rfl) (fun _ _ _ h => h) (YS.val (by rfl) (fun _ _ => rfl)) ?_
  simp only [Act.put, List.setIfInBounds_toArray, List.set_cons_zero, List.set_cons_succ]
  refine wpS_take 19 (v := .bool FT) (oi := { dst := some 50, op := Op.binOp BinOp.eql 25 (Operand.tmp 49) (Operand.const (Value.int IntKind.i64 0)) 25, type := 4, pos := "law.go:29", after := #[{ on := 18, ground := Ground.data }, { on := 15, ground := Ground.guard }], guard := some (15, true) }) rfl (by kernel_rfl) (by kernel_rfl) (by kernel_rfl) (fun _ _ _ h => h) (YS.val (by rfl) (fun _ _ => by rw [← HFT.out]; go_simp; rw [Bool.eq_iff_iff]; simp)) ?_
  simp only [Act.put, List.setIfInBounds_toArray, List.set_cons_zero, List.set_cons_succ]
  refine wpS_take 20 (v := .bool true) (oi := { dst := some 51, op := Op.binOp BinOp.eql 4 (Operand.tmp 48) (Operand.tmp 50) 4, type := 4, pos := "law.go:29", after := #[{ on := 17, ground := Ground.data }, { on := 19, ground := Ground.data }, { on := 15, ground := Ground.guard }], guard := some (15, true) }) rfl (by kernel_rfl) (by kernel_rfl) (by kernel_rfl) (fun _ _ _ h => h) (YS.val (by rfl) (fun _ _ => by cases FT <;> go_simp)) ?_
  simp only [Act.put, List.setIfInBounds_toArray, List.set_cons_zero, List.set_cons_succ]
  refine wpS_take 21 (v := .bool true) (oi := { dst := some 52, op := Op.pick (Operand.tmp 46) (Operand.tmp 51) (Operand.const (Value.bool false)), type := 4, pos := "law.go:29", after := #[{ on := 15, ground := Ground.data }, { on := 20, ground := Ground.data }], guard := none }) rfl (by kernel_rfl) (by kernel_rfl) (by kernel_rfl) (fun _ _ _ h => h) (YS.val (by rfl) (fun _ _ => rfl)) ?_
  simp only [Act.put, List.setIfInBounds_toArray, List.set_cons_zero, List.set_cons_succ]
  refine wpS_take 22 (v := .bool true) (oi := { dst := some 53, op := Op.move (Operand.tmp 52), type := 4, pos := "law.go:29", after := #[{ on := 21, ground := Ground.data }, { on := 17, ground := Ground.chain }], guard := none }) rfl (by kernel_rfl) (by kernel_rfl) (by kernel_rfl) (fun _ _ _ h => h) (YS.val (by rfl) (fun _ _ => rfl)) ?_
  simp only [Act.put, List.setIfInBounds_toArray, List.set_cons_zero, List.set_cons_succ]
  refine wpS_take 23 (v := .bool true) (oi := { dst := some 54, op := Op.call { callee := Callee.value (Operand.func 21), args := #[], argTypes := #[] }, type := 4, pos := "law.go:29", after := #[{ on := 22, ground := Ground.chain }, { on := 22, ground := Ground.guard }], guard := some (22, true) }) rfl (by kernel_rfl) (by kernel_rfl) (by kernel_rfl) (fun _ _ _ h => h) (YS.grow (f := 21) (args := #[]) (by rfl) (fun w => by go_simp) HK.out (fun w => HAW.out w)) ?_
  simp only [Act.put, List.setIfInBounds_toArray, List.set_cons_zero, List.set_cons_succ]
  refine wpS_take 24 (v := .bool true) (oi := { dst := some 55, op := Op.pick (Operand.tmp 53) (Operand.tmp 54) (Operand.const (Value.bool false)), type := 4, pos := "law.go:29", after := #[{ on := 22, ground := Ground.data }, { on := 23, ground := Ground.data }], guard := none }) rfl (by kernel_rfl) (by kernel_rfl) (by kernel_rfl) (fun _ _ _ h => h) (YS.val (by rfl) (fun _ _ => rfl)) ?_
  simp only [Act.put, List.setIfInBounds_toArray, List.set_cons_zero, List.set_cons_succ]
  refine wpS_take 25 (v := .bool true) (oi := { dst := some 10, op := Op.assign (Operand.tmp 55), type := 4, pos := "law.go:29", after := #[{ on := 24, ground := Ground.data }, { on := 23, ground := Ground.chain }, { on := 0, ground := Ground.phase }, { on := 1, ground := Ground.phase }, { on := 2, ground := Ground.phase }, { on := 3, ground := Ground.phase }, { on := 4, ground := Ground.phase }, { on := 5, ground := Ground.phase }, { on := 6, ground := Ground.phase }, { on := 7, ground := Ground.phase }, { on := 8, ground := Ground.phase }, { on := 9, ground := Ground.phase }, { on := 10, ground := Ground.phase }, { on := 11, ground := Ground.phase }, { on := 12, ground := Ground.phase }, { on := 13, ground := Ground.phase }, { on := 14, ground := Ground.phase }, { on := 15, ground := Ground.phase }, { on := 16, ground := Ground.phase }, { on := 17, ground := Ground.phase }, { on := 18, ground := Ground.phase }, { on := 19, ground := Ground.phase }, { on := 20, ground := Ground.phase }, { on := 21, ground := Ground.phase }, { on := 22, ground := Ground.phase }, { on := 23, ground := Ground.phase }, { on := 24, ground := Ground.phase }], guard := none }) rfl (by kernel_rfl) (by kernel_rfl) (by kernel_rfl) (fun _ _ _ h => h) (YS.val (by rfl) (fun _ _ => rfl)) ?_
  simp only [Act.put, List.setIfInBounds_toArray, List.set_cons_zero, List.set_cons_succ]
  refine wpS_done (by kernel_rfl) (fun w5 hw5 => ?_) _
  have HW5 := Lib.hid hw5.1
  clear hw5
  go_wp2_with fail
  refine bodyPost_ret (by simp [*, results, Try.results6, go_sem]; try rfl) rfl ?_
  exact ⟨rfl, HW5.out⟩

end Go.Proofs.Ytfboddnpkaiifaa
