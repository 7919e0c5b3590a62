/- cut: Again. -/
import Derived.Test.YtfboddnpkaiifaaCutShapeT
import Derived.Test.YtfboddnpkaiifaaRegG
namespace Go.Proofs.Ytfboddnpkaiifaa
open Go.RowKit

set_option maxRecDepth 100000 in
set_option maxHeartbeats 4000000 in
theorem again_r (k n seg z r q u : Int) (p1 c2 p2 c3 p3 c4 p4 c5 p5 c6 p6 c7 p7 c8 p8 c9 p9 : Bool) (sg t l b : Nat) (R : Value) (w : World)
    (h1 : p1 = decide (n < 1)) (d2 : c2 = decide (255 < n)) (h2 : p2 = (p1 || c2)) (d3 : c3 = decide (k < 1)) (h3 : p3 = (p2 || c3)) (d4 : c4 = decide (n < k)) (h4 : p4 = (p3 || c4))
    (d5 : c5 = decide (seg < 1)) (h5 : p5 = (p4 || c5)) (d6 : c6 = (r != 0)) (h6 : p6 = (p5 || c6)) (d7 : c7 = decide (u < q)) (h7 : p7 = (p6 || c7)) (d8 : c8 = decide (z ≤ 32)) (h8 : p8 = (p7 || c8)) (d9 : c9 = decide (16777216 < z)) (h9 : p9 = (p8 || c9))
    (f6 : p5 = false → k ≠ 0 ∧ seg.tmod k = r) (f7 : p6 = false → k ≠ 0 ∧ IntKind.i64.wrap (seg.tdiv k) = q)
    (f8 : p6 = false → ∀ w, Calls Try.prog 51 #[.int .i64 65536, .int .i64 k] w fun e w' => e = .returned (.int .i64 u) ∧ w = w')
    (fs : p9 = false → ∀ w, Calls Try.prog 55 #[.int .i64 k, .int .i64 n, .int .i64 seg, .int .i64 z] w fun e w' => e = .returned (.agg #[.int .i64 k, .int .i64 n, .int .i64 seg, .int .i64 z, .int .i64 sg, .int .i64 t, .int .i64 b, .int .i64 l]) ∧ w.grownBy w' none)
    (hR1 : p9 = false → sg ≤ 512 → .tuple #[.agg #[.int .i64 k, .int .i64 n, .int .i64 seg, .int .i64 z, .int .i64 sg, .int .i64 t, .int .i64 b, .int .i64 l], .int .i64 0] = R) (hR2 : ¬ (p9 = false ∧ sg ≤ 512) → .tuple #[.agg #[.int .i64 0, .int .i64 0, .int .i64 0, .int .i64 0, .int .i64 0, .int .i64 0, .int .i64 0, .int .i64 0], .int .i64 92] = R) :
    Calls Try.prog 34 #[.int .i64 k, .int .i64 n, .int .i64 seg, .int .i64 z] w fun e w' => e = .returned R ∧ w.grownBy w' none := by
  have F6 := Lib.hid f6
  have F7 := Lib.hid f7
  have F8 := Lib.hid f8
  have FS := Lib.hid fs
  have HR1' := Lib.hid hR1
  have HR2' := Lib.hid hR2
  clear f6 f7 f8 fs hR1 hR2
  replace h1 := Lib.hid h1
  replace d2 := Lib.hid d2
  replace h2 := Lib.hid h2
  replace d3 := Lib.hid d3
  replace h3 := Lib.hid h3
  replace d4 := Lib.hid d4
  replace h4 := Lib.hid h4
  replace d5 := Lib.hid d5
  replace h5 := Lib.hid h5
  replace d6 := Lib.hid d6
  replace h6 := Lib.hid h6
  replace d7 := Lib.hid d7
  replace h7 := Lib.hid h7
  replace d8 := Lib.hid d8
  replace h8 := Lib.hid h8
  replace d9 := Lib.hid d9
  replace h9 := Lib.hid h9
  go_enter Try.func34, Try.ntmps34
  go_upto_region 1 with fail
  refine wp_regionS (fun w' => w' = (w.alloc (.cells #[.int .i64 0, .int .i64 0, .int .i64 0, .int .i64 0, .int .i64 0, .int .i64 0, .int .i64 0, .int .i64 0] 47)).drew) (by kernel_rfl) rfl ?_
  refine wpS_take 0 (v := .int .i64 n) (oi := { dst := some 11, op := Op.move (Operand.tmp 1), type := 3, pos := "cut.go:50", after := #[], guard := none }) rfl (by kernel_rfl) (by kernel_rfl) (by kernel_rfl) (fun _ _ _ h => h) (YS.val (by rfl) (fun _ _ => rfl)) ?_
  simp only [Act.put, List.setIfInBounds_toArray, List.set_cons_zero, List.set_cons_succ]
  refine wpS_take 1 (v := .bool p1) (oi := { dst := some 12, op := Op.binOp BinOp.lss 3 (Operand.tmp 11) (Operand.const (Value.int IntKind.i64 1)) 3, type := 4, pos := "cut.go:50", after := #[{ on := 0, ground := Ground.data }], guard := none }) rfl (by kernel_rfl) (by kernel_rfl) (by kernel_rfl) (fun _ _ _ h => h) (YS.val (by rfl) (fun _ _ => by rw [h1.out]; go_simp)) ?_
  simp only [Act.put, List.setIfInBounds_toArray, List.set_cons_zero, List.set_cons_succ]
  refine wpS_take 2 (v := .bool p1) (oi := { dst := some 13, op := Op.move (Operand.tmp 12), type := 4, pos := "cut.go:50", after := #[{ on := 1, ground := Ground.data }], guard := none }) rfl (by kernel_rfl) (by kernel_rfl) (by kernel_rfl) (fun _ _ _ h => h) (YS.val (by rfl) (fun _ _ => rfl)) ?_
  simp only [Act.put, List.setIfInBounds_toArray, List.set_cons_zero, List.set_cons_succ]
  refine wpS_take 3 (v := gvF p1 (.int .i64 n)) (oi := { dst := some 14, op := Op.move (Operand.tmp 1), type := 3, pos := "cut.go:50", after := #[{ on := 2, ground := Ground.guard }], guard := some (2, false) }) rfl (by kernel_rfl) (by kernel_rfl) (by kernel_rfl) (fun _ _ _ h => h) (YS.guardF p1 (fun hp => by subst hp; exact YS.val (by rfl) (fun _ _ => rfl)) (fun hp => by subst hp; rfl)) ?_
  simp only [Act.put, List.setIfInBounds_toArray, List.set_cons_zero, List.set_cons_succ]
  refine wpS_take 4 (v := gvF p1 (.bool c2)) (oi := { dst := some 15, op := Op.binOp BinOp.gtr 3 (Operand.tmp 14) (Operand.const (Value.int IntKind.i64 255)) 3, type := 4, pos := "cut.go:50", after := #[{ on := 3, ground := Ground.data }, { on := 2, ground := Ground.guard }], guard := some (2, false) }) rfl (by kernel_rfl) (by kernel_rfl) (by kernel_rfl) (fun _ _ _ h => h) (YS.guardF p1 (fun hp => by subst hp; exact YS.val (by rfl) (fun _ _ => by rw [d2.out]; go_simp)) (fun hp => by subst hp; rfl)) ?_
  simp only [Act.put, List.setIfInBounds_toArray, List.set_cons_zero, List.set_cons_succ]
  refine wpS_take 5 (v := .bool p2) (oi := { dst := some 16, op := Op.pick (Operand.tmp 13) (Operand.const (Value.bool true)) (Operand.tmp 15), type := 4, pos := "cut.go:50", after := #[{ on := 2, ground := Ground.data }, { on := 4, ground := Ground.data }], guard := none }) rfl (by kernel_rfl) (by kernel_rfl) (by kernel_rfl) (fun _ _ _ h => h) (by have h := h2.out; subst h; cases p1 <;> exact YS.val (by rfl) (fun _ _ => rfl)) ?_
  simp only [Act.put, List.setIfInBounds_toArray, List.set_cons_zero, List.set_cons_succ]
  refine wpS_take 6 (v := .bool p2) (oi := { dst := some 17, op := Op.move (Operand.tmp 16), type := 4, pos := "cut.go:50", after := #[{ on := 5, ground := Ground.data }, { on := 2, ground := Ground.chain }], guard := none }) rfl (by kernel_rfl) (by kernel_rfl) (by kernel_rfl) (fun _ _ _ h => h) (YS.val (by rfl) (fun _ _ => rfl)) ?_
  simp only [Act.put, List.setIfInBounds_toArray, List.set_cons_zero, List.set_cons_succ]
  refine wpS_take 7 (v := gvF p2 (.int .i64 k)) (oi := { dst := some 18, op := Op.move (Operand.tmp 0), type := 3, pos := "cut.go:50", after := #[{ on := 6, ground := Ground.guard }], guard := some (6, false) }) rfl (by kernel_rfl) (by kernel_rfl) (by kernel_rfl) (fun _ _ _ h => h) (YS.guardF p2 (fun hp => by subst hp; exact YS.val (by rfl) (fun _ _ => rfl)) (fun hp => by subst hp; rfl)) ?_
  simp only [Act.put, List.setIfInBounds_toArray, List.set_cons_zero, List.set_cons_succ]
  refine wpS_take 8 (v := gvF p2 (.bool c3)) (oi := { dst := some 19, op := Op.binOp BinOp.lss 3 (Operand.tmp 18) (Operand.const (Value.int IntKind.i64 1)) 3, type := 4, pos := "cut.go:50", after := #[{ on := 7, ground := Ground.data }, { on := 6, ground := Ground.guard }], guard := some (6, false) }) rfl (by kernel_rfl) (by kernel_rfl) (by kernel_rfl) (fun _ _ _ h => h) (YS.guardF p2 (fun hp => by subst hp; exact YS.val (by rfl) (fun _ _ => by rw [d3.out]; go_simp)) (fun hp => by subst hp; rfl)) ?_
  simp only [Act.put, List.setIfInBounds_toArray, List.set_cons_zero, List.set_cons_succ]
  refine wpS_take 9 (v := .bool p3) (oi := { dst := some 20, op := Op.pick (Operand.tmp 17) (Operand.const (Value.bool true)) (Operand.tmp 19), type := 4, pos := "cut.go:50", after := #[{ on := 6, ground := Ground.data }, { on := 8, ground := Ground.data }], guard := none }) rfl (by kernel_rfl) (by kernel_rfl) (by kernel_rfl) (fun _ _ _ h => h) (by have h := h3.out; subst h; cases p2 <;> exact YS.val (by rfl) (fun _ _ => rfl)) ?_
  simp only [Act.put, List.setIfInBounds_toArray, List.set_cons_zero, List.set_cons_succ]
  refine wpS_take 10 (v := .bool p3) (oi := { dst := some 21, op := Op.move (Operand.tmp 20), type := 4, pos := "cut.go:50", after := #[{ on := 9, ground := Ground.data }, { on := 6, ground := Ground.chain }], guard := none }) rfl (by kernel_rfl) (by kernel_rfl) (by kernel_rfl) (fun _ _ _ h => h) (YS.val (by rfl) (fun _ _ => rfl)) ?_
  simp only [Act.put, List.setIfInBounds_toArray, List.set_cons_zero, List.set_cons_succ]
  refine wpS_take 11 (v := gvF p3 (.int .i64 k)) (oi := { dst := some 22, op := Op.move (Operand.tmp 0), type := 3, pos := "cut.go:50", after := #[{ on := 10, ground := Ground.guard }], guard := some (10, false) }) rfl (by kernel_rfl) (by kernel_rfl) (by kernel_rfl) (fun _ _ _ h => h) (YS.guardF p3 (fun hp => by subst hp; exact YS.val (by rfl) (fun _ _ => rfl)) (fun hp => by subst hp; rfl)) ?_
  simp only [Act.put, List.setIfInBounds_toArray, List.set_cons_zero, List.set_cons_succ]
  refine wpS_take 12 (v := gvF p3 (.int .i64 n)) (oi := { dst := some 23, op := Op.move (Operand.tmp 1), type := 3, pos := "cut.go:50", after := #[{ on := 10, ground := Ground.guard }], guard := some (10, false) }) rfl (by kernel_rfl) (by kernel_rfl) (by kernel_rfl) (fun _ _ _ h => h) (YS.guardF p3 (fun hp => by subst hp; exact YS.val (by rfl) (fun _ _ => rfl)) (fun hp => by subst hp; rfl)) ?_
  simp only [Act.put, List.setIfInBounds_toArray, List.set_cons_zero, List.set_cons_succ]
  refine wpS_take 13 (v := gvF p3 (.bool c4)) (oi := { dst := some 24, op := Op.binOp BinOp.gtr 3 (Operand.tmp 22) (Operand.tmp 23) 3, type := 4, pos := "cut.go:50", after := #[{ on := 11, ground := Ground.data }, { on := 12, ground := Ground.data }, { on := 10, ground := Ground.guard }], guard := some (10, false) }) rfl (by kernel_rfl) (by kernel_rfl) (by kernel_rfl) (fun _ _ _ h => h) (YS.guardF p3 (fun hp => by subst hp; exact YS.val (by rfl) (fun _ _ => by rw [d4.out]; go_simp)) (fun hp => by subst hp; rfl)) ?_
  simp only [Act.put, List.setIfInBounds_toArray, List.set_cons_zero, List.set_cons_succ]
  refine wpS_take 14 (v := .bool p4) (oi := { dst := some 25, op := Op.pick (Operand.tmp 21) (Operand.const (Value.bool true)) (Operand.tmp 24), type := 4, pos := "cut.go:50", after := #[{ on := 10, ground := Ground.data }, { on := 13, ground := Ground.data }], guard := none }) rfl (by kernel_rfl) (by kernel_rfl) (by kernel_rfl) (fun _ _ _ h => h) (by have h := h4.out; subst h; cases p3 <;> exact YS.val (by rfl) (fun _ _ => rfl)) ?_
  simp only [Act.put, List.setIfInBounds_toArray, List.set_cons_zero, List.set_cons_succ]
  refine wpS_take 15 (v := .bool p4) (oi := { dst := some 26, op := Op.move (Operand.tmp 25), type := 4, pos := "cut.go:50", after := #[{ on := 14, ground := Ground.data }, { on := 10, ground := Ground.chain }], guard := none }) rfl (by kernel_rfl) (by kernel_rfl) (by kernel_rfl) (fun _ _ _ h => h) (YS.val (by rfl) (fun _ _ => rfl)) ?_
  simp only [Act.put, List.setIfInBounds_toArray, List.set_cons_zero, List.set_cons_succ]
  refine wpS_take 16 (v := gvF p4 (.int .i64 seg)) (oi := { dst := some 27, op := Op.move (Operand.tmp 2), type := 3, pos := "cut.go:50", after := #[{ on := 15, ground := Ground.guard }], guard := some (15, false) }) rfl (by kernel_rfl) (by kernel_rfl) (by kernel_rfl) (fun _ _ _ h => h) (YS.guardF p4 (fun hp => by subst hp; exact YS.val (by rfl) (fun _ _ => rfl)) (fun hp => by subst hp; rfl)) ?_
  simp only [Act.put, List.setIfInBounds_toArray, List.set_cons_zero, List.set_cons_succ]
  refine wpS_take 17 (v := gvF p4 (.bool c5)) (oi := { dst := some 28, op := Op.binOp BinOp.lss 3 (Operand.tmp 27) (Operand.const (Value.int IntKind.i64 1)) 3, type := 4, pos := "cut.go:50", after := #[{ on := 16, ground := Ground.data }, { on := 15, ground := Ground.guard }], guard := some (15, false) }) rfl (by kernel_rfl) (by kernel_rfl) (by kernel_rfl) (fun _ _ _ h => h) (YS.guardF p4 (fun hp => by subst hp; exact YS.val (by rfl) (fun _ _ => by rw [d5.out]; go_simp)) (fun hp => by subst hp; rfl)) ?_
  simp only [Act.put, List.setIfInBounds_toArray, List.set_cons_zero, List.set_cons_succ]
  refine wpS_take 18 (v := .bool p5) (oi := { dst := some 29, op := Op.pick (Operand.tmp 26) (Operand.const (Value.bool true)) (Operand.tmp 28), type := 4, pos := "cut.go:50", after := #[{ on := 15, ground := Ground.data }, { on := 17, ground := Ground.data }], guard := none }) rfl (by kernel_rfl) (by kernel_rfl) (by kernel_rfl) (fun _ _ _ h => h) (by have h := h5.out; subst h; cases p4 <;> exact YS.val (by rfl) (fun _ _ => rfl)) ?_
  simp only [Act.put, List.setIfInBounds_toArray, List.set_cons_zero, List.set_cons_succ]
  refine wpS_take 19 (v := .bool p5) (oi := { dst := some 30, op := Op.move (Operand.tmp 29), type := 4, pos := "cut.go:50", after := #[{ on := 18, ground := Ground.data }, { on := 15, ground := Ground.chain }], guard := none }) rfl (by kernel_rfl) (by kernel_rfl) (by kernel_rfl) (fun _ _ _ h => h) (YS.val (by rfl) (fun _ _ => rfl)) ?_
  simp only [Act.put, List.setIfInBounds_toArray, List.set_cons_zero, List.set_cons_succ]
  refine wpS_take 20 (v := gvF p5 (.int .i64 seg)) (oi := { dst := some 31, op := Op.move (Operand.tmp 2), type := 3, pos := "cut.go:50", after := #[{ on := 19, ground := Ground.guard }], guard := some (19, false) }) rfl (by kernel_rfl) (by kernel_rfl) (by kernel_rfl) (fun _ _ _ h => h) (YS.guardF p5 (fun hp => by subst hp; exact YS.val (by rfl) (fun _ _ => rfl)) (fun hp => by subst hp; rfl)) ?_
  simp only [Act.put, List.setIfInBounds_toArray, List.set_cons_zero, List.set_cons_succ]
  refine wpS_take 21 (v := gvF p5 (.int .i64 k)) (oi := { dst := some 32, op := Op.move (Operand.tmp 0), type := 3, pos := "cut.go:50", after := #[{ on := 19, ground := Ground.guard }], guard := some (19, false) }) rfl (by kernel_rfl) (by kernel_rfl) (by kernel_rfl) (fun _ _ _ h => h) (YS.guardF p5 (fun hp => by subst hp; exact YS.val (by rfl) (fun _ _ => rfl)) (fun hp => by subst hp; rfl)) ?_
  simp only [Act.put, List.setIfInBounds_toArray, List.set_cons_zero, List.set_cons_succ]
  refine wpS_take 22 (v := gvF p5 (.int .i64 r)) (oi := { dst := some 33, op := Op.binOp BinOp.rem 3 (Operand.tmp 31) (Operand.tmp 32) 3, type := 3, pos := "cut.go:50", after := #[{ on := 20, ground := Ground.data }, { on := 21, ground := Ground.data }, { on := 19, ground := Ground.guard }], guard := some (19, false) }) rfl (by kernel_rfl) (by kernel_rfl) (by kernel_rfl) (fun _ _ _ h => h) (YS.guardF p5 (fun hp => by obtain ⟨f0, f1⟩ := F6.out hp; subst hp; exact YS.val (by rfl) (fun _ _ => by go_simp)) (fun hp => by subst hp; rfl)) ?_
  simp only [Act.put, List.setIfInBounds_toArray, List.set_cons_zero, List.set_cons_succ]
  refine wpS_take 23 (v := gvF p5 (.bool c6)) (oi := { dst := some 34, op := Op.binOp BinOp.neq 3 (Operand.tmp 33) (Operand.const (Value.int IntKind.i64 0)) 3, type := 4, pos := "cut.go:50", after := #[{ on := 22, ground := Ground.data }, { on := 19, ground := Ground.guard }], guard := some (19, false) }) rfl (by kernel_rfl) (by kernel_rfl) (by kernel_rfl) (fun _ _ _ h => h) (YS.guardF p5 (fun hp => by subst hp; exact YS.val (by rfl) (fun _ _ => by rw [d6.out]; go_simp)) (fun hp => by subst hp; rfl)) ?_
  simp only [Act.put, List.setIfInBounds_toArray, List.set_cons_zero, List.set_cons_succ]
  refine wpS_take 24 (v := .bool p6) (oi := { dst := some 35, op := Op.pick (Operand.tmp 30) (Operand.const (Value.bool true)) (Operand.tmp 34), type := 4, pos := "cut.go:50", after := #[{ on := 19, ground := Ground.data }, { on := 23, ground := Ground.data }], guard := none }) rfl (by kernel_rfl) (by kernel_rfl) (by kernel_rfl) (fun _ _ _ h => h) (by have h := h6.out; subst h; cases p5 <;> exact YS.val (by rfl) (fun _ _ => rfl)) ?_
  simp only [Act.put, List.setIfInBounds_toArray, List.set_cons_zero, List.set_cons_succ]
  refine wpS_take 25 (v := .bool p6) (oi := { dst := some 36, op := Op.move (Operand.tmp 35), type := 4, pos := "cut.go:50", after := #[{ on := 24, ground := Ground.data }, { on := 19, ground := Ground.chain }], guard := none }) rfl (by kernel_rfl) (by kernel_rfl) (by kernel_rfl) (fun _ _ _ h => h) (YS.val (by rfl) (fun _ _ => rfl)) ?_
  simp only [Act.put, List.setIfInBounds_toArray, List.set_cons_zero, List.set_cons_succ]
  refine wpS_take 26 (v := gvF p6 (.int .i64 seg)) (oi := { dst := some 37, op := Op.move (Operand.tmp 2), type := 3, pos := "cut.go:50", after := #[{ on := 25, ground := Ground.guard }], guard := some (25, false) }) rfl (by kernel_rfl) (by kernel_rfl) (by kernel_rfl) (fun _ _ _ h => h) (YS.guardF p6 (fun hp => by subst hp; exact YS.val (by rfl) (fun _ _ => rfl)) (fun hp => by subst hp; rfl)) ?_
  simp only [Act.put, List.setIfInBounds_toArray, List.set_cons_zero, List.set_cons_succ]
  refine wpS_take 27 (v := gvF p6 (.int .i64 k)) (oi := { dst := some 38, op := Op.move (Operand.tmp 0), type := 3, pos := "cut.go:50", after := #[{ on := 25, ground := Ground.guard }], guard := some (25, false) }) rfl (by kernel_rfl) (by kernel_rfl) (by kernel_rfl) (fun _ _ _ h => h) (YS.guardF p6 (fun hp => by subst hp; exact YS.val (by rfl) (fun _ _ => rfl)) (fun hp => by subst hp; rfl)) ?_
  simp only [Act.put, List.setIfInBounds_toArray, List.set_cons_zero, List.set_cons_succ]
  refine wpS_take 28 (v := gvF p6 (.int .i64 q)) (oi := { dst := some 39, op := Op.binOp BinOp.quo 3 (Operand.tmp 37) (Operand.tmp 38) 3, type := 3, pos := "cut.go:50", after := #[{ on := 26, ground := Ground.data }, { on := 27, ground := Ground.data }, { on := 25, ground := Ground.guard }], guard := some (25, false) }) rfl (by kernel_rfl) (by kernel_rfl) (by kernel_rfl) (fun _ _ _ h => h) (YS.guardF p6 (fun hp => by obtain ⟨f0, f1⟩ := F7.out hp; subst hp; exact YS.val (by rfl) (fun _ _ => by go_simp)) (fun hp => by subst hp; rfl)) ?_
  simp only [Act.put, List.setIfInBounds_toArray, List.set_cons_zero, List.set_cons_succ]
  refine wpS_take 29 (v := gvF p6 (.int .i64 k)) (oi := { dst := some 40, op := Op.move (Operand.tmp 0), type := 3, pos := "cut.go:50", after := #[{ on := 25, ground := Ground.guard }], guard := some (25, false) }) rfl (by kernel_rfl) (by kernel_rfl) (by kernel_rfl) (fun _ _ _ h => h) (YS.guardF p6 (fun hp => by subst hp; exact YS.val (by rfl) (fun _ _ => rfl)) (fun hp => by subst hp; rfl)) ?_
  simp only [Act.put, List.setIfInBounds_toArray, List.set_cons_zero, List.set_cons_succ]
  refine wpS_take 30 (v := gvF p6 (.int .i64 u)) (oi := { dst := some 41, op := Op.call { callee := Callee.value (Operand.func 51), args := #[Operand.const (Value.int IntKind.i64 65536), Operand.tmp 40], argTypes := #[3, 3] }, type := 3, pos := "cut.go:50", after := #[{ on := 29, ground := Ground.data }, { on := 25, ground := Ground.chain }, { on := 25, ground := Ground.guard }], guard := some (25, false) }) rfl (by kernel_rfl) (by kernel_rfl) (by kernel_rfl) (fun _ _ _ h => h) (YS.guardF p6 (fun hp => by have f := F8.out hp; subst hp; exact YS.same (f := 51) (args := #[.int .i64 65536, .int .i64 k]) (by rfl) (fun w => by go_simp) f) (fun hp => by subst hp; rfl)) ?_
  simp only [Act.put, List.setIfInBounds_toArray, List.set_cons_zero, List.set_cons_succ]
  refine wpS_take 31 (v := gvF p6 (.bool c7)) (oi := { dst := some 42, op := Op.binOp BinOp.gtr 3 (Operand.tmp 39) (Operand.tmp 41) 3, type := 4, pos := "cut.go:50", after := #[{ on := 28, ground := Ground.data }, { on := 30, ground := Ground.data }, { on := 25, ground := Ground.guard }], guard := some (25, false) }) rfl (by kernel_rfl) (by kernel_rfl) (by kernel_rfl) (fun _ _ _ h => h) (YS.guardF p6 (fun hp => by subst hp; exact YS.val (by rfl) (fun _ _ => by rw [d7.out]; go_simp)) (fun hp => by subst hp; rfl)) ?_
  simp only [Act.put, List.setIfInBounds_toArray, List.set_cons_zero, List.set_cons_succ]
  refine wpS_take 32 (v := .bool p7) (oi := { dst := some 43, op := Op.pick (Operand.tmp 36) (Operand.const (Value.bool true)) (Operand.tmp 42), type := 4, pos := "cut.go:50", after := #[{ on := 25, ground := Ground.data }, { on := 31, ground := Ground.data }], guard := none }) rfl (by kernel_rfl) (by kernel_rfl) (by kernel_rfl) (fun _ _ _ h => h) (by have h := h7.out; subst h; cases p6 <;> exact YS.val (by rfl) (fun _ _ => rfl)) ?_
  simp only [Act.put, List.setIfInBounds_toArray, List.set_cons_zero, List.set_cons_succ]
  refine wpS_take 33 (v := .bool p7) (oi := { dst := some 44, op := Op.move (Operand.tmp 43), type := 4, pos := "cut.go:50", after := #[{ on := 32, ground := Ground.data }, { on := 30, ground := Ground.chain }], guard := none }) rfl (by kernel_rfl) (by kernel_rfl) (by kernel_rfl) (fun _ _ _ h => h) (YS.val (by rfl) (fun _ _ => rfl)) ?_
  simp only [Act.put, List.setIfInBounds_toArray, List.set_cons_zero, List.set_cons_succ]
  refine wpS_take 34 (v := gvF p7 (.int .i64 z)) (oi := { dst := some 45, op := Op.move (Operand.tmp 3), type := 3, pos := "cut.go:50", after := #[{ on := 33, ground := Ground.guard }], guard := some (33, false) }) rfl (by kernel_rfl) (by kernel_rfl) (by kernel_rfl) (fun _ _ _ h => h) (YS.guardF p7 (fun hp => by subst hp; exact YS.val (by rfl) (fun _ _ => rfl)) (fun hp => by subst hp; rfl)) ?_
  simp only [Act.put, List.setIfInBounds_toArray, List.set_cons_zero, List.set_cons_succ]
  refine wpS_take 35 (v := gvF p7 (.bool c8)) (oi := { dst := some 46, op := Op.binOp BinOp.leq 3 (Operand.tmp 45) (Operand.const (Value.int IntKind.i64 32)) 3, type := 4, pos := "cut.go:50", after := #[{ on := 34, ground := Ground.data }, { on := 33, ground := Ground.guard }], guard := some (33, false) }) rfl (by kernel_rfl) (by kernel_rfl) (by kernel_rfl) (fun _ _ _ h => h) (YS.guardF p7 (fun hp => by subst hp; exact YS.val (by rfl) (fun _ _ => by rw [d8.out]; go_simp)) (fun hp => by subst hp; rfl)) ?_
  simp only [Act.put, List.setIfInBounds_toArray, List.set_cons_zero, List.set_cons_succ]
  refine wpS_take 36 (v := .bool p8) (oi := { dst := some 47, op := Op.pick (Operand.tmp 44) (Operand.const (Value.bool true)) (Operand.tmp 46), type := 4, pos := "cut.go:50", after := #[{ on := 33, ground := Ground.data }, { on := 35, ground := Ground.data }], guard := none }) rfl (by kernel_rfl) (by kernel_rfl) (by kernel_rfl) (fun _ _ _ h => h) (by have h := h8.out; subst h; cases p7 <;> exact YS.val (by rfl) (fun _ _ => rfl)) ?_
  simp only [Act.put, List.setIfInBounds_toArray, List.set_cons_zero, List.set_cons_succ]
  refine wpS_take 37 (v := .bool p8) (oi := { dst := some 48, op := Op.move (Operand.tmp 47), type := 4, pos := "cut.go:50", after := #[{ on := 36, ground := Ground.data }, { on := 33, ground := Ground.chain }], guard := none }) rfl (by kernel_rfl) (by kernel_rfl) (by kernel_rfl) (fun _ _ _ h => h) (YS.val (by rfl) (fun _ _ => rfl)) ?_
  simp only [Act.put, List.setIfInBounds_toArray, List.set_cons_zero, List.set_cons_succ]
  refine wpS_take 38 (v := gvF p8 (.int .i64 z)) (oi := { dst := some 49, op := Op.move (Operand.tmp 3), type := 3, pos := "cut.go:50", after := #[{ on := 37, ground := Ground.guard }], guard := some (37, false) }) rfl (by kernel_rfl) (by kernel_rfl) (by kernel_rfl) (fun _ _ _ h => h) (YS.guardF p8 (fun hp => by subst hp; exact YS.val (by rfl) (fun _ _ => rfl)) (fun hp => by subst hp; rfl)) ?_
  simp only [Act.put, List.setIfInBounds_toArray, List.set_cons_zero, List.set_cons_succ]
  refine wpS_take 39 (v := gvF p8 (.bool c9)) (oi := { dst := some 50, op := Op.binOp BinOp.gtr 3 (Operand.tmp 49) (Operand.const (Value.int IntKind.i64 16777216)) 3, type := 4, pos := "cut.go:50", after := #[{ on := 38, ground := Ground.data }, { on := 37, ground := Ground.guard }], guard := some (37, false) }) rfl (by kernel_rfl) (by kernel_rfl) (by kernel_rfl) (fun _ _ _ h => h) (YS.guardF p8 (fun hp => by subst hp; exact YS.val (by rfl) (fun _ _ => by rw [d9.out]; go_simp)) (fun hp => by subst hp; rfl)) ?_
  simp only [Act.put, List.setIfInBounds_toArray, List.set_cons_zero, List.set_cons_succ]
  refine wpS_take 40 (v := .bool p9) (oi := { dst := some 51, op := Op.pick (Operand.tmp 48) (Operand.const (Value.bool true)) (Operand.tmp 50), type := 4, pos := "cut.go:50", after := #[{ on := 37, ground := Ground.data }, { on := 39, ground := Ground.data }], guard := none }) rfl (by kernel_rfl) (by kernel_rfl) (by kernel_rfl) (fun _ _ _ h => h) (by have h := h9.out; subst h; cases p8 <;> exact YS.val (by rfl) (fun _ _ => rfl)) ?_
  simp only [Act.put, List.setIfInBounds_toArray, List.set_cons_zero, List.set_cons_succ]
  refine wpS_done (by kernel_rfl) (fun w1 hw1 => ?_) _
  subst hw1
  clear h1 d2 h2 d3 h3 d4 h4 d5 h5 d6 h6 d7 h7 d8 h8 d9 h9
  cases p9
  · have FS' := Lib.hid (FS.out rfl)
    have HRA := Lib.hid (HR1'.out rfl)
    have HRB := Lib.hid (fun h : ¬ sg ≤ 512 => HR2'.out (fun x => h x.2))
    clear HR1' HR2'
    clear FS F6 F7 F8
    have hr0 : (((w.alloc (.cells #[.int .i64 0, .int .i64 0, .int .i64 0, .int .i64 0, .int .i64 0, .int .i64 0, .int .i64 0, .int .i64 0] 47)).drew).heap[w.heap.size]? = some (.cells #[.int .i64 0, .int .i64 0, .int .i64 0, .int .i64 0, .int .i64 0, .int .i64 0, .int .i64 0, .int .i64 0] 47 (0, 0))) := heap_alloc_new _ _
    have hg0 : w.grownBy ((w.alloc (.cells #[.int .i64 0, .int .i64 0, .int .i64 0, .int .i64 0, .int .i64 0, .int .i64 0, .int .i64 0, .int .i64 0] 47)).drew) none := grownBy_d1 (World.grownBy_alloc _ _ _)
    have HR0 := Lib.hid hr0
    have HG0 := Lib.hid hg0
    obtain ⟨W0, hW0⟩ : ∃ W, W = (w.alloc (.cells #[.int .i64 0, .int .i64 0, .int .i64 0, .int .i64 0, .int .i64 0, .int .i64 0, .int .i64 0, .int .i64 0] 47)).drew := ⟨_, rfl⟩
    rw [← hW0] at HR0 HG0 ⊢
    clear hr0 hg0 hW0
    go_wp2_with fail
    refine (FS'.out _).mono ?_
    rintro e w2 ⟨rfl, g⟩
    have HR1 := Lib.hid (heap_grown HR0.out g)
    have HG1 := Lib.hid (grownBy_trans HG0.out g)
    have hl2 : w.heap.size < w2.heap.size := (Array.getElem?_eq_some_iff.1 HR1.out).1
    clear g
    have HN := Lib.hid (heap_alloc_new w2 (.cells #[.int .i64 0, .int .i64 0, .int .i64 0, .int .i64 0, .int .i64 0, .int .i64 0, .int .i64 0, .int .i64 0] 47))
    have HR2 := Lib.hid (heap_grown HR1.out (World.grownBy_alloc w2 (.cells #[.int .i64 0, .int .i64 0, .int .i64 0, .int .i64 0, .int .i64 0, .int .i64 0, .int .i64 0, .int .i64 0] 47) none))
    have HG2 := Lib.hid (grownBy_trans HG1.out (World.grownBy_alloc w2 (.cells #[.int .i64 0, .int .i64 0, .int .i64 0, .int .i64 0, .int .i64 0, .int .i64 0, .int .i64 0, .int .i64 0] 47) none))
    obtain ⟨W, hW⟩ : ∃ W, W = (w2.alloc (.cells #[.int .i64 0, .int .i64 0, .int .i64 0, .int .i64 0, .int .i64 0, .int .i64 0, .int .i64 0, .int .i64 0] 47)).setRow w2.heap.size #[.int .i64 k, .int .i64 n, .int .i64 seg, .int .i64 z, .int .i64 sg, .int .i64 t, .int .i64 b, .int .i64 l] := ⟨_, rfl⟩
    have hg1 := grownBy_old HG2.out (grownBy_setRow _ w2.heap.size #[.int .i64 k, .int .i64 n, .int .i64 seg, .int .i64 z, .int .i64 sg, .int .i64 t, .int .i64 b, .int .i64 l]) (by omega)
    have hn1 : ((w2.alloc (.cells #[.int .i64 0, .int .i64 0, .int .i64 0, .int .i64 0, .int .i64 0, .int .i64 0, .int .i64 0, .int .i64 0] 47)).setRow w2.heap.size #[.int .i64 k, .int .i64 n, .int .i64 seg, .int .i64 z, .int .i64 sg, .int .i64 t, .int .i64 b, .int .i64 l]).heap[w2.heap.size]? = some (.cells #[.int .i64 k, .int .i64 n, .int .i64 seg, .int .i64 z, .int .i64 sg, .int .i64 t, .int .i64 b, .int .i64 l] 47 (0, 0)) := setRow_heap _ _ _ _ _ _ HN.out
    have hr1 : ((w2.alloc (.cells #[.int .i64 0, .int .i64 0, .int .i64 0, .int .i64 0, .int .i64 0, .int .i64 0, .int .i64 0, .int .i64 0] 47)).setRow w2.heap.size #[.int .i64 k, .int .i64 n, .int .i64 seg, .int .i64 z, .int .i64 sg, .int .i64 t, .int .i64 b, .int .i64 l]).heap[w.heap.size]? = some (.cells #[.int .i64 0, .int .i64 0, .int .i64 0, .int .i64 0, .int .i64 0, .int .i64 0, .int .i64 0, .int .i64 0] 47 (0, 0)) := (setRow_other _ w2.heap.size w.heap.size _ (by omega)).trans HR2.out
    rw [← hW] at hg1 hn1 hr1
    have c4 : W.cell? ⟨w2.heap.size, 4, none⟩ = some (.int .i64 sg) := by simp only [World.cell?, hn1]; rfl
    have HGG := Lib.hid hg1
    have HN1 := Lib.hid hn1
    have HRR := Lib.hid hr1
    have HW := Lib.hid hW
    clear hg1 hn1 hr1 hW
    by_cases hsg : sg ≤ 512
    · have hsi : (sg : Int) ≤ 512 := by omega
      have hni : ¬ (512 : Int) < (sg : Int) := by omega
      go_wp2_with (first | (refine wpList_store_row rfl 47 _ _ rfl w2.heap.size #[.int .i64 k, .int .i64 n, .int .i64 seg, .int .i64 z, .int .i64 sg, .int .i64 t, .int .i64 b, .int .i64 l] rfl rfl 47 _ HN.out size_shape rfl (by simp [Value.oneCell']) ?_; rw [← HW.out]) | (refine wpList_load_row rfl 47 _ rfl w2.heap.size rfl 47 #[.int .i64 k, .int .i64 n, .int .i64 seg, .int .i64 z, .int .i64 sg, .int .i64 t, .int .i64 b, .int .i64 l] (0, 0) _ HN1.out Try.underlying47 rfl size_shape ?_) | (refine wpList_store_row rfl 47 _ _ rfl (w.heap.size) #[.int .i64 k, .int .i64 n, .int .i64 seg, .int .i64 z, .int .i64 sg, .int .i64 t, .int .i64 b, .int .i64 l] rfl rfl 47 _ HRR.out size_shape rfl (by simp [Value.oneCell']) ?_))
      refine bodyPost_ret (v := .tuple #[.agg #[.int .i64 k, .int .i64 n, .int .i64 seg, .int .i64 z, .int .i64 sg, .int .i64 t, .int .i64 b, .int .i64 l], .int .i64 0]) (results_ct rfl _ _ (w.heap.size) 47 #[.int .i64 k, .int .i64 n, .int .i64 seg, .int .i64 z, .int .i64 sg, .int .i64 t, .int .i64 b, .int .i64 l] (0, 0) _ _ rfl rfl (setRow_heap _ _ _ _ _ _ HRR.out) Try.underlying47 rfl size_shape) rfl ⟨by rw [HRA.out hsg], ?_⟩
      exact grownBy_old HGG.out (grownBy_setRow _ _ _) (by omega)
    · have hsi : ¬ (sg : Int) ≤ 512 := by omega
      have hni : (512 : Int) < (sg : Int) := by omega
      go_wp2_with (first | (refine wpList_store_row rfl 47 _ _ rfl w2.heap.size #[.int .i64 k, .int .i64 n, .int .i64 seg, .int .i64 z, .int .i64 sg, .int .i64 t, .int .i64 b, .int .i64 l] rfl rfl 47 _ HN.out size_shape rfl (by simp [Value.oneCell']) ?_; rw [← HW.out]) | (refine wpList_store_row rfl 47 _ _ rfl (w.heap.size) #[.int .i64 0, .int .i64 0, .int .i64 0, .int .i64 0, .int .i64 0, .int .i64 0, .int .i64 0, .int .i64 0] rfl rfl 47 _ HRR.out size_shape rfl (by simp [Value.oneCell']) ?_))
      refine bodyPost_ret (v := .tuple #[.agg #[.int .i64 0, .int .i64 0, .int .i64 0, .int .i64 0, .int .i64 0, .int .i64 0, .int .i64 0, .int .i64 0], .int .i64 92]) (results_ct rfl _ _ (w.heap.size) 47 #[.int .i64 0, .int .i64 0, .int .i64 0, .int .i64 0, .int .i64 0, .int .i64 0, .int .i64 0, .int .i64 0] (0, 0) _ _ rfl rfl (setRow_heap _ _ _ _ _ _ HRR.out) Try.underlying47 rfl size_shape) rfl ⟨by rw [HRB.out hsg], ?_⟩
      exact grownBy_old HGG.out (grownBy_setRow _ _ _) (by omega)
  · have HRB := Lib.hid (HR2'.out (fun x => absurd x.1 (by decide)))
    clear FS F6 F7 F8 HR1' HR2'
    have hr0 : (((w.alloc (.cells #[.int .i64 0, .int .i64 0, .int .i64 0, .int .i64 0, .int .i64 0, .int .i64 0, .int .i64 0, .int .i64 0] 47)).drew).heap[w.heap.size]? = some (.cells #[.int .i64 0, .int .i64 0, .int .i64 0, .int .i64 0, .int .i64 0, .int .i64 0, .int .i64 0, .int .i64 0] 47 (0, 0))) := heap_alloc_new _ _
    have hg0 : w.grownBy ((w.alloc (.cells #[.int .i64 0, .int .i64 0, .int .i64 0, .int .i64 0, .int .i64 0, .int .i64 0, .int .i64 0, .int .i64 0] 47)).drew) none := grownBy_d1 (World.grownBy_alloc _ _ _)
    have HRR := Lib.hid hr0
    have HGG := Lib.hid hg0
    obtain ⟨W0, hW0⟩ : ∃ W, W = (w.alloc (.cells #[.int .i64 0, .int .i64 0, .int .i64 0, .int .i64 0, .int .i64 0, .int .i64 0, .int .i64 0, .int .i64 0] 47)).drew := ⟨_, rfl⟩
    rw [← hW0] at HRR HGG ⊢
    clear hr0 hg0 hW0
    go_wp2_with (refine wpList_store_row rfl 47 _ _ rfl (w.heap.size) #[.int .i64 0, .int .i64 0, .int .i64 0, .int .i64 0, .int .i64 0, .int .i64 0, .int .i64 0, .int .i64 0] rfl rfl 47 _ HRR.out size_shape rfl (by simp [Value.oneCell']) ?_)
    refine bodyPost_ret (v := .tuple #[.agg #[.int .i64 0, .int .i64 0, .int .i64 0, .int .i64 0, .int .i64 0, .int .i64 0, .int .i64 0, .int .i64 0], .int .i64 92]) (results_ct rfl _ _ (w.heap.size) 47 #[.int .i64 0, .int .i64 0, .int .i64 0, .int .i64 0, .int .i64 0, .int .i64 0, .int .i64 0, .int .i64 0] (0, 0) _ _ rfl rfl (setRow_heap _ _ _ _ _ _ HRR.out) Try.underlying47 rfl size_shape) rfl ⟨by rw [HRB.out], ?_⟩
    exact grownBy_old HGG.out (grownBy_setRow _ _ _) (by omega)

theorem four_iff (k n seg z : Int) : four k n seg z ↔ ¬ n < 1 ∧ ¬ 255 < n ∧ ¬ k < 1 ∧ ¬ n < k ∧ ¬ seg < 1 ∧ seg.tmod k = 0 ∧ ¬ ((upN 65536 k.toNat : Nat) : Int) < seg.tdiv k ∧ ¬ z ≤ 32 ∧ ¬ 16777216 < z := by
  unfold four sized
  by_cases h : 1 ≤ k ∧ 1 ≤ seg
  · obtain ⟨K, rfl⟩ : ∃ K : Nat, k = (K : Int) := ⟨k.toNat, by omega⟩
    obtain ⟨G, rfl⟩ : ∃ G : Nat, seg = (G : Int) := ⟨seg.toNat, by omega⟩
    simp only [Int.toNat_natCast]
    rw [show (G : Int).tmod (K : Int) = ((G % K : Nat) : Int) from rfl, show (G : Int).tdiv (K : Int) = ((G / K : Nat) : Int) from rfl]
    generalize G % K = r
    generalize G / K = q
    generalize upN 65536 K = u
    omega
  · constructor
    · intro h'; omega
    · intro h'; omega

theorem again_n (k n seg z : Int) (hseg : seg ≤ 9223372036854775807) (w : World) :
    Calls Try.prog 34 #[.int .i64 k, .int .i64 n, .int .i64 seg, .int .i64 z] w fun e w' => e = .returned (.tuple #[(agS k n seg z).val, .int .i64 (agE k n seg z : Nat)]) ∧ w.grownBy w' none := by
  refine again_r k n seg z (seg.tmod k) (seg.tdiv k) ((upN 65536 k.toNat : Nat) : Int) _ _ _ _ _ _ _ _ _ _ _ _ _ _ _ _ _ (segsN seg.toNat z.toNat) (tailN seg.toNat z.toNat) (upN (tailN seg.toNat z.toNat) k.toNat) (seg.toNat / k.toNat) _ w rfl rfl rfl rfl rfl rfl rfl rfl rfl rfl rfl rfl rfl rfl rfl rfl rfl (fun h => ?_) (fun h => ?_) (fun h w => ?_) (fun h w => ?_) (fun h hs => ?_) (fun h => ?_)
  · simp only [Bool.or_eq_false_iff, decide_eq_false_iff_not] at h
    refine ⟨by omega, rfl⟩
  · simp only [Bool.or_eq_false_iff, decide_eq_false_iff_not] at h
    obtain ⟨⟨⟨⟨⟨h1, h2⟩, h3⟩, h4⟩, h5⟩, h6⟩ := h
    refine ⟨by omega, ?_⟩
    obtain ⟨K, rfl⟩ : ∃ K : Nat, k = (K : Int) := ⟨k.toNat, by omega⟩
    obtain ⟨G, rfl⟩ : ∃ G : Nat, seg = (G : Int) := ⟨seg.toNat, by omega⟩
    rw [show (G : Int).tdiv (K : Int) = ((G / K : Nat) : Int) from rfl]
    have := Nat.div_le_self G K
    generalize G / K = q at this ⊢
    exact IntWalk.i64_in _ (by omega)
  · simp only [Bool.or_eq_false_iff, decide_eq_false_iff_not] at h
    obtain ⟨⟨⟨⟨⟨h1, h2⟩, h3⟩, h4⟩, h5⟩, h6⟩ := h
    obtain ⟨K, rfl⟩ : ∃ K : Nat, k = (K : Int) := ⟨k.toNat, by omega⟩
    exact up_n 65536 K w (by omega) (by omega) (by omega)
  · simp only [Bool.or_eq_false_iff, decide_eq_false_iff_not, bne_eq_false_iff_eq] at h
    obtain ⟨⟨⟨⟨⟨⟨⟨⟨h1, h2⟩, h3⟩, h4⟩, h5⟩, h6⟩, h7⟩, h8⟩, h9⟩ := h
    have hf : four k n seg z := (four_iff k n seg z).2 ⟨h1, h2, h3, h4, h5, h6, h7, h8, h9⟩
    obtain ⟨K, rfl⟩ : ∃ K : Nat, k = (K : Int) := ⟨k.toNat, by omega⟩
    obtain ⟨N, rfl⟩ : ∃ K : Nat, n = (K : Int) := ⟨n.toNat, by omega⟩
    obtain ⟨G, rfl⟩ : ∃ G : Nat, seg = (G : Int) := ⟨seg.toNat, by omega⟩
    obtain ⟨Z, rfl⟩ : ∃ G : Nat, z = (G : Int) := ⟨z.toNat, by omega⟩
    obtain ⟨_, _, _, _, _, g6, g7, _⟩ := hf
    simp only [Int.toNat_natCast] at g6 g7 ⊢
    have hd := Nat.div_add_mod G K
    rw [g6, Nat.add_zero] at hd
    have hu := upN_lt (a := 65536) (b := K) (by omega)
    have hm : K * (G / K) ≤ K * upN 65536 K := Nat.mul_le_mul_left _ g7
    rw [Nat.mul_comm K (upN _ _)] at hm
    exact shape_n K N G Z w ⟨by omega, by omega, by omega, by omega, by omega, by omega⟩
  · simp only [Bool.or_eq_false_iff, decide_eq_false_iff_not, bne_eq_false_iff_eq] at h
    obtain ⟨⟨⟨⟨⟨⟨⟨⟨h1, h2⟩, h3⟩, h4⟩, h5⟩, h6⟩, h7⟩, h8⟩, h9⟩ := h
    have hf : four k n seg z := (four_iff k n seg z).2 ⟨h1, h2, h3, h4, h5, h6, h7, h8, h9⟩
    have h0 : agE k n seg z = 0 := agE_zero.2 ⟨hf, hs⟩
    unfold agS
    rw [h0, if_pos rfl]
    have e1 : ((k.toNat : Nat) : Int) = k := by omega
    have e2 : ((n.toNat : Nat) : Int) = n := by omega
    have e3 : ((seg.toNat : Nat) : Int) = seg := by omega
    have e4 : ((z.toNat : Nat) : Int) = z := by omega
    unfold Sh.val laidN
    simp only [e1, e2, e3, e4]
    rfl
  · have h0 : agE k n seg z ≠ 0 := fun h0 => h (by
      obtain ⟨hf, hs⟩ := agE_zero.1 h0
      obtain ⟨h1, h2, h3, h4, h5, h6, h7, h8, h9⟩ := (four_iff k n seg z).1 hf
      refine ⟨?_, hs⟩
      simp only [Bool.or_eq_false_iff, decide_eq_false_iff_not, bne_eq_false_iff_eq]
      exact ⟨⟨⟨⟨⟨⟨⟨⟨h1, h2⟩, h3⟩, h4⟩, h5⟩, h6⟩, h7⟩, h8⟩, h9⟩)
    unfold agS
    rw [if_neg h0, agE_not h0]
    rfl

end Go.Proofs.Ytfboddnpkaiifaa
