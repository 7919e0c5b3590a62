/- Helpers and contracts of the proofs over this seat: CutRefLaid, CutRefShapeG, CutRefShapeT, CutRefAgain, CutRefFits, CutSizeW, CutCoverW, CutRefCover, CutRefSize. Each states what a function of the program answers, or is plain Lean; its conditions stand in each statement. -/
import Derived.Handy
import Derived.Test.YtfboddnpkaiifaaPtAA
import Derived.Test.YtfboddnpkaiifaaPtAB
import Derived.Test.YtfboddnpkaiifaaPtAC
import Derived.Test.YtfboddnpkaiifaaPtAD
set_option linter.unusedVariables false
/- cut: the document's laid. -/
namespace Go.Proofs.Ytfboddnpkaiifaa
open Go.RowKit

set_option maxRecDepth 100000 in
set_option maxHeartbeats 8000000 in
theorem refLaid_l (k n g z s t q l : Nat) (p : Int) (w : World) (hk : ¬ k = 0)
    (u1 : ∀ w, Calls Try.prog 54 #[.int .i64 z, .int .i64 g] w fun e w' => e = .returned (.int .i64 s) ∧ ∃ q, w' = w.drewN q)
    (u2 : ∀ w, Calls Try.prog 54 #[.int .i64 t, .int .i64 k] w fun e w' => e = .returned (.int .i64 l) ∧ ∃ q, w' = w.drewN q)
    (w1 : wrap64 ((s : Int) - 1) = (s : Int) - 1) (w2 : wrap64 (((s : Int) - 1) * g) = p) (w3 : wrap64 ((z : Int) - p) = t) (w4 : wrap64 ((g : Int) / (k : Int)) = (q : Int))
    (i1 : IntKind.i64.wrap ((s : Int) - 1) = (s : Int) - 1) (i2 : IntKind.i64.wrap (((s : Int) - 1) * g) = p) (i3 : IntKind.i64.wrap ((z : Int) - p) = t) (i4 : IntKind.i64.wrap ((g : Int) / (k : Int)) = (q : Int)) (i5 : IntKind.i64.wrap ((g : Int).tdiv (k : Int)) = (q : Int)) :
    Calls Try.prog 56 #[.int .i64 k, .int .i64 n, .int .i64 g, .int .i64 z] w fun e w' => e = .returned (Sh.val ⟨k, n, g, z, s, t, q, l⟩) ∧ w.grownBy w' none := by
  have U1 := Lib.hid u1
  have U2 := Lib.hid u2
  clear u1 u2
  go_enter Try.func56, Try.ntmps56
  go_wp2_with fail
  refine (U1.out _).mono ?_; rintro e w' ⟨rfl, q1, rfl⟩
  go_wp2_with fail
  refine (U2.out _).mono ?_; rintro e w' ⟨rfl, q2, rfl⟩
  go_wp2_with fail
  refine bodyPost_ret (by simp [*, results, Try.results56, go_sem]; try rfl) rfl ?_
  refine ⟨rfl, ?_⟩
  repeat (first | refine grownBy_old ?_ (grownBy_setCell _ _ _ _) (by simp) | refine grownBy_trans ?_ (grownBy_drewN _ _ none))
  exact grownBy_al (World.grownBy_alloc _ _ _) _

theorem refLaid_n (k n g z : Nat) (w : World) (h : Nums k g z) :
    Calls Try.prog 56 #[.int .i64 k, .int .i64 n, .int .i64 g, .int .i64 z] w fun e w' => e = .returned (laidN k n g z).val ∧ w.grownBy w' none := by
  obtain ⟨s, t, q, l, p, L⟩ := nums_laid h
  rw [L.val]
  refine refLaid_l k n g z s t q l p w (by have := h.k1; omega) (fun w => ?_) (fun w => ?_) L.w1 L.w2 L.w3 L.w4 L.i1 L.i2 L.i3 L.i4 L.i5
  · have := refUp_n z g w (by have := h.z2; omega) h.g1 (by have := h.g2; omega)
    rwa [L.e1] at this
  · have := refUp_n t k w (by have := L.t2; omega) h.k1 (by have := h.k2; omega)
    rwa [L.e2] at this

end Go.Proofs.Ytfboddnpkaiifaa
/- the document's Shape, where all is well. -/
namespace Go.Proofs.Ytfboddnpkaiifaa
open Go.RowKit

theorem grown_drewN {w w' : World} (h : ∃ q, w' = w.drewN q) : w.grownBy w' none := by obtain ⟨q, rfl⟩ := h; exact grownBy_drewN _ _ none

set_option maxRecDepth 100000 in
set_option maxHeartbeats 4000000 in
theorem refShape_g (k n seg z u G s t q l : Nat) (happy : Int) (a : Option Addr) (ln c : Nat) (w : World) (hz1 : 32 < z) (hz2 : z ≤ 16777216)
    (hc : ∀ w, Calls Try.prog 32 #[.agg #[.int .i64 k, .int .i64 n, .int .i64 seg, .int .i64 happy, .slice a ln c]] w fun e w' => e = .returned (.int .i64 0) ∧ w.grownBy w' none)
    (hu : ∀ w, Calls Try.prog 54 #[.int .i64 seg, .int .i64 k] w fun e w' => e = .returned (.int .i64 u) ∧ ∃ q, w' = w.drewN q)
    (hs : ∀ w, Calls Try.prog 56 #[.int .i64 k, .int .i64 n, .int .i64 G, .int .i64 z] w fun e w' => e = .returned (.agg #[.int .i64 k, .int .i64 n, .int .i64 G, .int .i64 z, .int .i64 s, .int .i64 t, .int .i64 q, .int .i64 l]) ∧ w.grownBy w' none)
    (m1 : IntKind.i64.wrap ((k : Int) * (u : Int)) = (G : Int)) (m2 : wrap64 ((k : Int) * (u : Int)) = (G : Int)) :
    Calls Try.prog 31 #[.agg #[.int .i64 k, .int .i64 n, .int .i64 seg, .int .i64 happy, .slice a ln c], .int .i64 z] w fun e w' => e = .returned (if s ≤ 512 then .tuple #[.agg #[.int .i64 k, .int .i64 n, .int .i64 G, .int .i64 z, .int .i64 s, .int .i64 t, .int .i64 q, .int .i64 l], .int .i64 0] else .tuple #[.agg #[.int .i64 0, .int .i64 0, .int .i64 0, .int .i64 0, .int .i64 0, .int .i64 0, .int .i64 0, .int .i64 0], .int .i64 3]) ∧ w.grownBy w' none := by
  have HC := Lib.hid hc
  have HU := Lib.hid hu
  have HS := Lib.hid hs
  have HCL : Hid (Clo (fun w' => w.grownBy w' none ∧ w'.heap[w.heap.size]? = some (.cells #[.int .i64 k, .int .i64 n, .int .i64 seg, .int .i64 happy, .slice a ln c] 45 (0, 0)) ∧ w'.heap[w.heap.size + 1]? = some (.cells #[.int .i64 0, .int .i64 0, .int .i64 0, .int .i64 0, .int .i64 0, .int .i64 0, .int .i64 0, .int .i64 0] 47 (0, 0)))) := fun w1 w2 h hg => ⟨grownBy_trans h.1 hg, heap_grown h.2.1 hg, heap_grown h.2.2 hg⟩
  have HW0 : Hid (((fun w' => w.grownBy w' none ∧ w'.heap[w.heap.size]? = some (.cells #[.int .i64 k, .int .i64 n, .int .i64 seg, .int .i64 happy, .slice a ln c] 45 (0, 0)) ∧ w'.heap[w.heap.size + 1]? = some (.cells #[.int .i64 0, .int .i64 0, .int .i64 0, .int .i64 0, .int .i64 0, .int .i64 0, .int .i64 0, .int .i64 0] 47 (0, 0))) : World → Prop) ((w.alloc (.cells #[.int .i64 k, .int .i64 n, .int .i64 seg, .int .i64 happy, .slice a ln c] 45)).alloc (.cells #[.int .i64 0, .int .i64 0, .int .i64 0, .int .i64 0, .int .i64 0, .int .i64 0, .int .i64 0, .int .i64 0] 47))) := ⟨grownBy_al (World.grownBy_alloc _ _ _) _, by rw [Below.heap_alloc _ _ _ (by simp), heap_alloc_new], by have h := heap_alloc_new (w.alloc (.cells #[.int .i64 k, .int .i64 n, .int .i64 seg, .int .i64 happy, .slice a ln c] 45)) (.cells #[.int .i64 0, .int .i64 0, .int .i64 0, .int .i64 0, .int .i64 0, .int .i64 0, .int .i64 0, .int .i64 0] 47); rw [World.size_alloc] at h; exact h⟩
  clear hc hu hs
  go_enter Try.func31, Try.ntmps31
  go_wp2_with fail
  refine (HC.out _).mono ?_
  rintro e w1 ⟨rfl, g⟩
  have HW1 := Lib.hid (HCL.out _ _ HW0.out g)
  clear g HW0
  go_upto_region 5 with fail
  refine wp_regionX (fun w' => w.grownBy w' none ∧ w'.heap[w.heap.size]? = some (.cells #[.int .i64 k, .int .i64 n, .int .i64 seg, .int .i64 happy, .slice a ln c] 45 (0, 0)) ∧ w'.heap[w.heap.size + 1]? = some (.cells #[.int .i64 0, .int .i64 0, .int .i64 0, .int .i64 0, .int .i64 0, .int .i64 0, .int .i64 0, .int .i64 0] 47 (0, 0))) 15 (by kernel_rfl) (HCL.out _ _ HW1.out (grownBy_d1 (World.grownBy.refl _ _))) ?_
  refine wpX_take 0 (v := .pointer (some ⟨w.heap.size, 0, none⟩)) (oi := { dst := some 18, op := Op.fieldAddr 45 (Operand.tmp 2) 0, type := 0, pos := "ref.go:35", after := #[], guard := none }) (oL := { dst := none, op := Op.store 47 (Operand.tmp 6) (Operand.tmp 31), type := 0, pos := "ref.go:35", after := #[{ on := 14, ground := Ground.data }, { on := 13, ground := Ground.data }, { on := 13, ground := Ground.chain }, { on := 0, ground := Ground.phase }, { on := 1, ground := Ground.phase }, { on := 2, ground := Ground.phase }, { on := 3, ground := Ground.phase }, { on := 4, ground := Ground.phase }, { on := 5, ground := Ground.phase }, { on := 6, ground := Ground.phase }, { on := 7, ground := Ground.phase }, { on := 8, ground := Ground.phase }, { on := 9, ground := Ground.phase }, { on := 10, ground := Ground.phase }, { on := 11, ground := Ground.phase }, { on := 12, ground := Ground.phase }, { on := 13, ground := Ground.phase }, { on := 14, ground := Ground.phase }], guard := none }) HCL.out rfl rfl rfl (by kernel_rfl) (by kernel_rfl) (by kernel_rfl) (by kernel_rfl) (by kernel_rfl) (fun _ _ _ h => h) (YG.val (by rfl) (fun _ _ => by go_simp)) ?_
  simp only [Act.put, List.setIfInBounds_toArray, List.set_cons_zero, List.set_cons_succ]
  refine wpX_take 1 (v := .int .i64 k) (oi := { dst := some 19, op := Op.load 3 (Operand.tmp 18), type := 3, pos := "ref.go:35", after := #[{ on := 0, ground := Ground.data }], guard := none }) (oL := { dst := none, op := Op.store 47 (Operand.tmp 6) (Operand.tmp 31), type := 0, pos := "ref.go:35", after := #[{ on := 14, ground := Ground.data }, { on := 13, ground := Ground.data }, { on := 13, ground := Ground.chain }, { on := 0, ground := Ground.phase }, { on := 1, ground := Ground.phase }, { on := 2, ground := Ground.phase }, { on := 3, ground := Ground.phase }, { on := 4, ground := Ground.phase }, { on := 5, ground := Ground.phase }, { on := 6, ground := Ground.phase }, { on := 7, ground := Ground.phase }, { on := 8, ground := Ground.phase }, { on := 9, ground := Ground.phase }, { on := 10, ground := Ground.phase }, { on := 11, ground := Ground.phase }, { on := 12, ground := Ground.phase }, { on := 13, ground := Ground.phase }, { on := 14, ground := Ground.phase }], guard := none }) HCL.out rfl rfl rfl (by kernel_rfl) (by kernel_rfl) (by kernel_rfl) (by kernel_rfl) (by kernel_rfl) (fun _ _ _ h => h) (YG.val (by rfl) (fun w' hS => by have h : w'.cell? ⟨w.heap.size, 0, none⟩ = some (.int .i64 k) := (by simp only [World.cell?, hS.2.1]; rfl); go_simp)) ?_
  simp only [Act.put, List.setIfInBounds_toArray, List.set_cons_zero, List.set_cons_succ]
  refine wpX_take 2 (v := .pointer (some ⟨w.heap.size, 1, none⟩)) (oi := { dst := some 20, op := Op.fieldAddr 45 (Operand.tmp 2) 1, type := 0, pos := "ref.go:35", after := #[], guard := none }) (oL := { dst := none, op := Op.store 47 (Operand.tmp 6) (Operand.tmp 31), type := 0, pos := "ref.go:35", after := #[{ on := 14, ground := Ground.data }, { on := 13, ground := Ground.data }, { on := 13, ground := Ground.chain }, { on := 0, ground := Ground.phase }, { on := 1, ground := Ground.phase }, { on := 2, ground := Ground.phase }, { on := 3, ground := Ground.phase }, { on := 4, ground := Ground.phase }, { on := 5, ground := Ground.phase }, { on := 6, ground := Ground.phase }, { on := 7, ground := Ground.phase }, { on := 8, ground := Ground.phase }, { on := 9, ground := Ground.phase }, { on := 10, ground := Ground.phase }, { on := 11, ground := Ground.phase }, { on := 12, ground := Ground.phase }, { on := 13, ground := Ground.phase }, { on := 14, ground := Ground.phase }], guard := none }) HCL.out rfl rfl rfl (by kernel_rfl) (by kernel_rfl) (by kernel_rfl) (by kernel_rfl) (by kernel_rfl) (fun _ _ _ h => h) (YG.val (by rfl) (fun _ _ => by go_simp)) ?_
  simp only [Act.put, List.setIfInBounds_toArray, List.set_cons_zero, List.set_cons_succ]
  refine wpX_take 3 (v := .int .i64 n) (oi := { dst := some 21, op := Op.load 3 (Operand.tmp 20), type := 3, pos := "ref.go:35", after := #[{ on := 2, ground := Ground.data }], guard := none }) (oL := { dst := none, op := Op.store 47 (Operand.tmp 6) (Operand.tmp 31), type := 0, pos := "ref.go:35", after := #[{ on := 14, ground := Ground.data }, { on := 13, ground := Ground.data }, { on := 13, ground := Ground.chain }, { on := 0, ground := Ground.phase }, { on := 1, ground := Ground.phase }, { on := 2, ground := Ground.phase }, { on := 3, ground := Ground.phase }, { on := 4, ground := Ground.phase }, { on := 5, ground := Ground.phase }, { on := 6, ground := Ground.phase }, { on := 7, ground := Ground.phase }, { on := 8, ground := Ground.phase }, { on := 9, ground := Ground.phase }, { on := 10, ground := Ground.phase }, { on := 11, ground := Ground.phase }, { on := 12, ground := Ground.phase }, { on := 13, ground := Ground.phase }, { on := 14, ground := Ground.phase }], guard := none }) HCL.out rfl rfl rfl (by kernel_rfl) (by kernel_rfl) (by kernel_rfl) (by kernel_rfl) (by kernel_rfl) (fun _ _ _ h => h) (YG.val (by rfl) (fun w' hS => by have h : w'.cell? ⟨w.heap.size, 1, none⟩ = some (.int .i64 n) := (by simp only [World.cell?, hS.2.1]; rfl); go_simp)) ?_
  simp only [Act.put, List.setIfInBounds_toArray, List.set_cons_zero, List.set_cons_succ]
  refine wpX_take 4 (v := .pointer (some ⟨w.heap.size, 0, none⟩)) (oi := { dst := some 22, op := Op.fieldAddr 45 (Operand.tmp 2) 0, type := 0, pos := "ref.go:35", after := #[], guard := none }) (oL := { dst := none, op := Op.store 47 (Operand.tmp 6) (Operand.tmp 31), type := 0, pos := "ref.go:35", after := #[{ on := 14, ground := Ground.data }, { on := 13, ground := Ground.data }, { on := 13, ground := Ground.chain }, { on := 0, ground := Ground.phase }, { on := 1, ground := Ground.phase }, { on := 2, ground := Ground.phase }, { on := 3, ground := Ground.phase }, { on := 4, ground := Ground.phase }, { on := 5, ground := Ground.phase }, { on := 6, ground := Ground.phase }, { on := 7, ground := Ground.phase }, { on := 8, ground := Ground.phase }, { on := 9, ground := Ground.phase }, { on := 10, ground := Ground.phase }, { on := 11, ground := Ground.phase }, { on := 12, ground := Ground.phase }, { on := 13, ground := Ground.phase }, { on := 14, ground := Ground.phase }], guard := none }) HCL.out rfl rfl rfl (by kernel_rfl) (by kernel_rfl) (by kernel_rfl) (by kernel_rfl) (by kernel_rfl) (fun _ _ _ h => h) (YG.val (by rfl) (fun _ _ => by go_simp)) ?_
  simp only [Act.put, List.setIfInBounds_toArray, List.set_cons_zero, List.set_cons_succ]
  refine wpX_take 5 (v := .int .i64 k) (oi := { dst := some 23, op := Op.load 3 (Operand.tmp 22), type := 3, pos := "ref.go:35", after := #[{ on := 4, ground := Ground.data }], guard := none }) (oL := { dst := none, op := Op.store 47 (Operand.tmp 6) (Operand.tmp 31), type := 0, pos := "ref.go:35", after := #[{ on := 14, ground := Ground.data }, { on := 13, ground := Ground.data }, { on := 13, ground := Ground.chain }, { on := 0, ground := Ground.phase }, { on := 1, ground := Ground.phase }, { on := 2, ground := Ground.phase }, { on := 3, ground := Ground.phase }, { on := 4, ground := Ground.phase }, { on := 5, ground := Ground.phase }, { on := 6, ground := Ground.phase }, { on := 7, ground := Ground.phase }, { on := 8, ground := Ground.phase }, { on := 9, ground := Ground.phase }, { on := 10, ground := Ground.phase }, { on := 11, ground := Ground.phase }, { on := 12, ground := Ground.phase }, { on := 13, ground := Ground.phase }, { on := 14, ground := Ground.phase }], guard := none }) HCL.out rfl rfl rfl (by kernel_rfl) (by kernel_rfl) (by kernel_rfl) (by kernel_rfl) (by kernel_rfl) (fun _ _ _ h => h) (YG.val (by rfl) (fun w' hS => by have h : w'.cell? ⟨w.heap.size, 0, none⟩ = some (.int .i64 k) := (by simp only [World.cell?, hS.2.1]; rfl); go_simp)) ?_
  simp only [Act.put, List.setIfInBounds_toArray, List.set_cons_zero, List.set_cons_succ]
  refine wpX_take 6 (v := .pointer (some ⟨w.heap.size, 2, none⟩)) (oi := { dst := some 24, op := Op.fieldAddr 45 (Operand.tmp 2) 2, type := 0, pos := "ref.go:35", after := #[], guard := none }) (oL := { dst := none, op := Op.store 47 (Operand.tmp 6) (Operand.tmp 31), type := 0, pos := "ref.go:35", after := #[{ on := 14, ground := Ground.data }, { on := 13, ground := Ground.data }, { on := 13, ground := Ground.chain }, { on := 0, ground := Ground.phase }, { on := 1, ground := Ground.phase }, { on := 2, ground := Ground.phase }, { on := 3, ground := Ground.phase }, { on := 4, ground := Ground.phase }, { on := 5, ground := Ground.phase }, { on := 6, ground := Ground.phase }, { on := 7, ground := Ground.phase }, { on := 8, ground := Ground.phase }, { on := 9, ground := Ground.phase }, { on := 10, ground := Ground.phase }, { on := 11, ground := Ground.phase }, { on := 12, ground := Ground.phase }, { on := 13, ground := Ground.phase }, { on := 14, ground := Ground.phase }], guard := none }) HCL.out rfl rfl rfl (by kernel_rfl) (by kernel_rfl) (by kernel_rfl) (by kernel_rfl) (by kernel_rfl) (fun _ _ _ h => h) (YG.val (by rfl) (fun _ _ => by go_simp)) ?_
  simp only [Act.put, List.setIfInBounds_toArray, List.set_cons_zero, List.set_cons_succ]
  refine wpX_take 7 (v := .int .i64 seg) (oi := { dst := some 25, op := Op.load 3 (Operand.tmp 24), type := 3, pos := "ref.go:35", after := #[{ on := 6, ground := Ground.data }], guard := none }) (oL := { dst := none, op := Op.store 47 (Operand.tmp 6) (Operand.tmp 31), type := 0, pos := "ref.go:35", after := #[{ on := 14, ground := Ground.data }, { on := 13, ground := Ground.data }, { on := 13, ground := Ground.chain }, { on := 0, ground := Ground.phase }, { on := 1, ground := Ground.phase }, { on := 2, ground := Ground.phase }, { on := 3, ground := Ground.phase }, { on := 4, ground := Ground.phase }, { on := 5, ground := Ground.phase }, { on := 6, ground := Ground.phase }, { on := 7, ground := Ground.phase }, { on := 8, ground := Ground.phase }, { on := 9, ground := Ground.phase }, { on := 10, ground := Ground.phase }, { on := 11, ground := Ground.phase }, { on := 12, ground := Ground.phase }, { on := 13, ground := Ground.phase }, { on := 14, ground := Ground.phase }], guard := none }) HCL.out rfl rfl rfl (by kernel_rfl) (by kernel_rfl) (by kernel_rfl) (by kernel_rfl) (by kernel_rfl) (fun _ _ _ h => h) (YG.val (by rfl) (fun w' hS => by have h : w'.cell? ⟨w.heap.size, 2, none⟩ = some (.int .i64 seg) := (by simp only [World.cell?, hS.2.1]; rfl); go_simp)) ?_
  simp only [Act.put, List.setIfInBounds_toArray, List.set_cons_zero, List.set_cons_succ]
  refine wpX_take 8 (v := .pointer (some ⟨w.heap.size, 0, none⟩)) (oi := { dst := some 26, op := Op.fieldAddr 45 (Operand.tmp 2) 0, type := 0, pos := "ref.go:35", after := #[], guard := none }) (oL := { dst := none, op := Op.store 47 (Operand.tmp 6) (Operand.tmp 31), type := 0, pos := "ref.go:35", after := #[{ on := 14, ground := Ground.data }, { on := 13, ground := Ground.data }, { on := 13, ground := Ground.chain }, { on := 0, ground := Ground.phase }, { on := 1, ground := Ground.phase }, { on := 2, ground := Ground.phase }, { on := 3, ground := Ground.phase }, { on := 4, ground := Ground.phase }, { on := 5, ground := Ground.phase }, { on := 6, ground := Ground.phase }, { on := 7, ground := Ground.phase }, { on := 8, ground := Ground.phase }, { on := 9, ground := Ground.phase }, { on := 10, ground := Ground.phase }, { on := 11, ground := Ground.phase }, { on := 12, ground := Ground.phase }, { on := 13, ground := Ground.phase }, { on := 14, ground := Ground.phase }], guard := none }) HCL.out rfl rfl rfl (by kernel_rfl) (by kernel_rfl) (by kernel_rfl) (by kernel_rfl) (by kernel_rfl) (fun _ _ _ h => h) (YG.val (by rfl) (fun _ _ => by go_simp)) ?_
  simp only [Act.put, List.setIfInBounds_toArray, List.set_cons_zero, List.set_cons_succ]
  refine wpX_take 9 (v := .int .i64 k) (oi := { dst := some 27, op := Op.load 3 (Operand.tmp 26), type := 3, pos := "ref.go:35", after := #[{ on := 8, ground := Ground.data }], guard := none }) (oL := { dst := none, op := Op.store 47 (Operand.tmp 6) (Operand.tmp 31), type := 0, pos := "ref.go:35", after := #[{ on := 14, ground := Ground.data }, { on := 13, ground := Ground.data }, { on := 13, ground := Ground.chain }, { on := 0, ground := Ground.phase }, { on := 1, ground := Ground.phase }, { on := 2, ground := Ground.phase }, { on := 3, ground := Ground.phase }, { on := 4, ground := Ground.phase }, { on := 5, ground := Ground.phase }, { on := 6, ground := Ground.phase }, { on := 7, ground := Ground.phase }, { on := 8, ground := Ground.phase }, { on := 9, ground := Ground.phase }, { on := 10, ground := Ground.phase }, { on := 11, ground := Ground.phase }, { on := 12, ground := Ground.phase }, { on := 13, ground := Ground.phase }, { on := 14, ground := Ground.phase }], guard := none }) HCL.out rfl rfl rfl (by kernel_rfl) (by kernel_rfl) (by kernel_rfl) (by kernel_rfl) (by kernel_rfl) (fun _ _ _ h => h) (YG.val (by rfl) (fun w' hS => by have h : w'.cell? ⟨w.heap.size, 0, none⟩ = some (.int .i64 k) := (by simp only [World.cell?, hS.2.1]; rfl); go_simp)) ?_
  simp only [Act.put, List.setIfInBounds_toArray, List.set_cons_zero, List.set_cons_succ]
  refine wpX_take 10 (v := .int .i64 u) (oi := { dst := some 28, op := Op.call { callee := Callee.value (Operand.func 54), args := #[Operand.tmp 25, Operand.tmp 27], argTypes := #[3, 3] }, type := 3, pos := "ref.go:35", after := #[{ on := 7, ground := Ground.data }, { on := 9, ground := Ground.data }], guard := none }) (oL := { dst := none, op := Op.store 47 (Operand.tmp 6) (Operand.tmp 31), type := 0, pos := "ref.go:35", after := #[{ on := 14, ground := Ground.data }, { on := 13, ground := Ground.data }, { on := 13, ground := Ground.chain }, { on := 0, ground := Ground.phase }, { on := 1, ground := Ground.phase }, { on := 2, ground := Ground.phase }, { on := 3, ground := Ground.phase }, { on := 4, ground := Ground.phase }, { on := 5, ground := Ground.phase }, { on := 6, ground := Ground.phase }, { on := 7, ground := Ground.phase }, { on := 8, ground := Ground.phase }, { on := 9, ground := Ground.phase }, { on := 10, ground := Ground.phase }, { on := 11, ground := Ground.phase }, { on := 12, ground := Ground.phase }, { on := 13, ground := Ground.phase }, { on := 14, ground := Ground.phase }], guard := none }) HCL.out rfl rfl rfl (by kernel_rfl) (by kernel_rfl) (by kernel_rfl) (by kernel_rfl) (by kernel_rfl) (fun _ _ _ h => h) (YG.call (f := 54) (args := #[.int .i64 seg, .int .i64 k]) (by rfl) (fun w => by go_simp) (fun w' _ => (HU.out w').mono fun _ _ h => ⟨h.1, grown_drewN h.2⟩)) ?_
  simp only [Act.put, List.setIfInBounds_toArray, List.set_cons_zero, List.set_cons_succ]
  refine wpX_take 11 (v := .int .i64 G) (oi := { dst := some 29, op := Op.binOp BinOp.mul 3 (Operand.tmp 23) (Operand.tmp 28) 3, type := 3, pos := "ref.go:35", after := #[{ on := 5, ground := Ground.data }, { on := 10, ground := Ground.data }], guard := none }) (oL := { dst := none, op := Op.store 47 (Operand.tmp 6) (Operand.tmp 31), type := 0, pos := "ref.go:35", after := #[{ on := 14, ground := Ground.data }, { on := 13, ground := Ground.data }, { on := 13, ground := Ground.chain }, { on := 0, ground := Ground.phase }, { on := 1, ground := Ground.phase }, { on := 2, ground := Ground.phase }, { on := 3, ground := Ground.phase }, { on := 4, ground := Ground.phase }, { on := 5, ground := Ground.phase }, { on := 6, ground := Ground.phase }, { on := 7, ground := Ground.phase }, { on := 8, ground := Ground.phase }, { on := 9, ground := Ground.phase }, { on := 10, ground := Ground.phase }, { on := 11, ground := Ground.phase }, { on := 12, ground := Ground.phase }, { on := 13, ground := Ground.phase }, { on := 14, ground := Ground.phase }], guard := none }) HCL.out rfl rfl rfl (by kernel_rfl) (by kernel_rfl) (by kernel_rfl) (by kernel_rfl) (by kernel_rfl) (fun _ _ _ h => h) (YG.val (by rfl) (fun _ _ => by go_simp)) ?_
  simp only [Act.put, List.setIfInBounds_toArray, List.set_cons_zero, List.set_cons_succ]
  refine wpX_take 12 (oi := { dst := some 30, op := Op.move (Operand.tmp 1), type := 3, pos := "ref.go:35", after := #[], guard := none }) (oL := { dst := none, op := Op.store 47 (Operand.tmp 6) (Operand.tmp 31), type := 0, pos := "ref.go:35", after := #[{ on := 14, ground := Ground.data }, { on := 13, ground := Ground.data }, { on := 13, ground := Ground.chain }, { on := 0, ground := Ground.phase }, { on := 1, ground := Ground.phase }, { on := 2, ground := Ground.phase }, { on := 3, ground := Ground.phase }, { on := 4, ground := Ground.phase }, { on := 5, ground := Ground.phase }, { on := 6, ground := Ground.phase }, { on := 7, ground := Ground.phase }, { on := 8, ground := Ground.phase }, { on := 9, ground := Ground.phase }, { on := 10, ground := Ground.phase }, { on := 11, ground := Ground.phase }, { on := 12, ground := Ground.phase }, { on := 13, ground := Ground.phase }, { on := 14, ground := Ground.phase }], guard := none }) HCL.out rfl rfl rfl (by kernel_rfl) (by kernel_rfl) (by kernel_rfl) (by kernel_rfl) (by kernel_rfl) (fun _ _ _ h => h) (YG.val (by rfl) (fun _ _ => rfl)) ?_
  simp only [Act.put, List.setIfInBounds_toArray, List.set_cons_zero, List.set_cons_succ]
  refine wpX_take 13 (v := .agg #[.int .i64 k, .int .i64 n, .int .i64 G, .int .i64 z, .int .i64 s, .int .i64 t, .int .i64 q, .int .i64 l]) (oi := { dst := some 31, op := Op.call { callee := Callee.value (Operand.func 56), args := #[Operand.tmp 19, Operand.tmp 21, Operand.tmp 29, Operand.tmp 30], argTypes := #[3, 3, 3, 3] }, type := 47, pos := "ref.go:35", after := #[{ on := 1, ground := Ground.data }, { on := 3, ground := Ground.data }, { on := 11, ground := Ground.data }, { on := 12, ground := Ground.data }, { on := 10, ground := Ground.chain }], guard := none }) (oL := { dst := none, op := Op.store 47 (Operand.tmp 6) (Operand.tmp 31), type := 0, pos := "ref.go:35", after := #[{ on := 14, ground := Ground.data }, { on := 13, ground := Ground.data }, { on := 13, ground := Ground.chain }, { on := 0, ground := Ground.phase }, { on := 1, ground := Ground.phase }, { on := 2, ground := Ground.phase }, { on := 3, ground := Ground.phase }, { on := 4, ground := Ground.phase }, { on := 5, ground := Ground.phase }, { on := 6, ground := Ground.phase }, { on := 7, ground := Ground.phase }, { on := 8, ground := Ground.phase }, { on := 9, ground := Ground.phase }, { on := 10, ground := Ground.phase }, { on := 11, ground := Ground.phase }, { on := 12, ground := Ground.phase }, { on := 13, ground := Ground.phase }, { on := 14, ground := Ground.phase }], guard := none }) HCL.out rfl rfl rfl (by kernel_rfl) (by kernel_rfl) (by kernel_rfl) (by kernel_rfl) (by kernel_rfl) (fun _ _ _ h => h) (YG.call (f := 56) (args := #[.int .i64 k, .int .i64 n, .int .i64 G, .int .i64 z]) (by rfl) (fun w => by go_simp) (fun w' _ => HS.out w')) ?_
  simp only [Act.put, List.setIfInBounds_toArray, List.set_cons_zero, List.set_cons_succ]
  refine wpX_step 14 (o := { dst := some 6, op := Op.alloc 47, type := 0, pos := "ref.go:35", after := #[], guard := none }) rfl rfl (by kernel_rfl) (by rfl) (fun w2 hS2 K hK => ?_)
  have HS2 := Lib.hid hS2
  have HK := Lib.hid hK
  clear hS2 hK
  go_simp
  have hl2 : w.heap.size + 1 < w2.heap.size := (Array.getElem?_eq_some_iff.1 HS2.out.2.2).1
  refine HK.out (fun w3 => (w.grownBy w3 none ∧ w3.heap[w.heap.size]? = some (.cells #[.int .i64 k, .int .i64 n, .int .i64 seg, .int .i64 happy, .slice a ln c] 45 (0, 0)) ∧ w3.heap[w.heap.size + 1]? = some (.cells #[.int .i64 0, .int .i64 0, .int .i64 0, .int .i64 0, .int .i64 0, .int .i64 0, .int .i64 0, .int .i64 0] 47 (0, 0))) ∧ w3.heap[w2.heap.size]? = some (.cells #[.int .i64 0, .int .i64 0, .int .i64 0, .int .i64 0, .int .i64 0, .int .i64 0, .int .i64 0, .int .i64 0] 47 (0, 0))) _ _ ⟨HCL.out _ _ HS2.out (World.grownBy_alloc _ _ _), heap_alloc_new _ _⟩ (fun _ h => h.1) (fun w3 w4 h hg => ⟨HCL.out _ _ h.1 hg, heap_grown h.2 hg⟩) ?_
  refine wpX_last (oL := { dst := none, op := Op.store 47 (Operand.tmp 6) (Operand.tmp 31), type := 0, pos := "ref.go:35", after := #[{ on := 14, ground := Ground.data }, { on := 13, ground := Ground.data }, { on := 13, ground := Ground.chain }, { on := 0, ground := Ground.phase }, { on := 1, ground := Ground.phase }, { on := 2, ground := Ground.phase }, { on := 3, ground := Ground.phase }, { on := 4, ground := Ground.phase }, { on := 5, ground := Ground.phase }, { on := 6, ground := Ground.phase }, { on := 7, ground := Ground.phase }, { on := 8, ground := Ground.phase }, { on := 9, ground := Ground.phase }, { on := 10, ground := Ground.phase }, { on := 11, ground := Ground.phase }, { on := 12, ground := Ground.phase }, { on := 13, ground := Ground.phase }, { on := 14, ground := Ground.phase }], guard := none }) rfl (by kernel_rfl) (by kernel_rfl) (by rfl) (fun w3 hS3 K3 hK3 => ?_)
  refine wp_store_row 47 _ _ rfl w2.heap.size #[.int .i64 k, .int .i64 n, .int .i64 G, .int .i64 z, .int .i64 s, .int .i64 t, .int .i64 q, .int .i64 l] rfl rfl 47 _ hS3.2 size_shape rfl (by simp [Value.oneCell']) (hK3 _ _ ?_)
  obtain ⟨W, hW⟩ : ∃ W, W = w3.setRow w2.heap.size #[.int .i64 k, .int .i64 n, .int .i64 G, .int .i64 z, .int .i64 s, .int .i64 t, .int .i64 q, .int .i64 l] := ⟨_, rfl⟩
  have hg1 := grownBy_old hS3.1.1 (grownBy_setRow w3 w2.heap.size #[.int .i64 k, .int .i64 n, .int .i64 G, .int .i64 z, .int .i64 s, .int .i64 t, .int .i64 q, .int .i64 l]) (by omega)
  have hn1 : (w3.setRow w2.heap.size #[.int .i64 k, .int .i64 n, .int .i64 G, .int .i64 z, .int .i64 s, .int .i64 t, .int .i64 q, .int .i64 l]).heap[w2.heap.size]? = some (.cells #[.int .i64 k, .int .i64 n, .int .i64 G, .int .i64 z, .int .i64 s, .int .i64 t, .int .i64 q, .int .i64 l] 47 (0, 0)) := setRow_heap _ _ _ _ _ _ hS3.2
  have hr1 : (w3.setRow w2.heap.size #[.int .i64 k, .int .i64 n, .int .i64 G, .int .i64 z, .int .i64 s, .int .i64 t, .int .i64 q, .int .i64 l]).heap[w.heap.size + 1]? = some (.cells #[.int .i64 0, .int .i64 0, .int .i64 0, .int .i64 0, .int .i64 0, .int .i64 0, .int .i64 0, .int .i64 0] 47 (0, 0)) := (setRow_other w3 w2.heap.size (w.heap.size + 1) _ (by omega)).trans hS3.1.2.2
  rw [← hW] at hg1 hn1 hr1 ⊢
  have c4 : W.cell? ⟨w2.heap.size, 4, none⟩ = some (.int .i64 s) := by simp only [World.cell?, hn1]; rfl
  have HG1 := Lib.hid hg1
  have HN1 := Lib.hid hn1
  have HR1 := Lib.hid hr1
  clear hg1 hn1 hr1 hW hS3 HW1 HS2
  by_cases hsg : s ≤ 512
  · have hsi : (s : Int) ≤ 512 := by omega
    go_wp2_with (first | (refine wpList_load_row rfl 47 _ rfl w2.heap.size rfl 47 #[.int .i64 k, .int .i64 n, .int .i64 G, .int .i64 z, .int .i64 s, .int .i64 t, .int .i64 q, .int .i64 l] (0, 0) _ HN1.out Try.underlying47 rfl size_shape ?_) | (refine wpList_store_row rfl 47 _ _ rfl (w.heap.size + 1) #[.int .i64 k, .int .i64 n, .int .i64 G, .int .i64 z, .int .i64 s, .int .i64 t, .int .i64 q, .int .i64 l] rfl rfl 47 _ HR1.out size_shape rfl (by simp [Value.oneCell']) ?_))
    refine bodyPost_ret (v := .tuple #[.agg #[.int .i64 k, .int .i64 n, .int .i64 G, .int .i64 z, .int .i64 s, .int .i64 t, .int .i64 q, .int .i64 l], .int .i64 0]) (results_ct rfl _ _ (w.heap.size + 1) 47 #[.int .i64 k, .int .i64 n, .int .i64 G, .int .i64 z, .int .i64 s, .int .i64 t, .int .i64 q, .int .i64 l] (0, 0) _ _ rfl rfl (setRow_heap _ _ _ _ _ _ HR1.out) Try.underlying47 rfl size_shape) rfl ⟨by first | rfl | rw [if_pos hsg], ?_⟩
    exact grownBy_old HG1.out (grownBy_setRow _ _ _) (by omega)
  · have hsi : ¬ (s : Int) ≤ 512 := by omega
    go_wp2_with (refine wpList_store_row rfl 47 _ _ rfl (w.heap.size + 1) #[.int .i64 0, .int .i64 0, .int .i64 0, .int .i64 0, .int .i64 0, .int .i64 0, .int .i64 0, .int .i64 0] rfl rfl 47 _ HR1.out size_shape rfl (by simp [Value.oneCell']) ?_)
    refine bodyPost_ret (v := .tuple #[.agg #[.int .i64 0, .int .i64 0, .int .i64 0, .int .i64 0, .int .i64 0, .int .i64 0, .int .i64 0, .int .i64 0], .int .i64 3]) (results_ct rfl _ _ (w.heap.size + 1) 47 #[.int .i64 0, .int .i64 0, .int .i64 0, .int .i64 0, .int .i64 0, .int .i64 0, .int .i64 0, .int .i64 0] (0, 0) _ _ rfl rfl (setRow_heap _ _ _ _ _ _ HR1.out) Try.underlying47 rfl size_shape) rfl ⟨by first | rfl | rw [if_neg hsg], ?_⟩
    exact grownBy_old HG1.out (grownBy_setRow _ _ _) (by omega)

end Go.Proofs.Ytfboddnpkaiifaa
/- the document's Shape, whole. -/
namespace Go.Proofs.Ytfboddnpkaiifaa
open Go.RowKit

set_option maxRecDepth 100000 in
set_option maxHeartbeats 4000000 in
theorem refShape_t (k n seg happy z : Int) (a : Option Addr) (ln c : Nat) (w : World) :
    Calls Try.prog 31 #[prV k n seg happy a ln c, .int .i64 z] w fun e w' => e = .returned (.tuple #[(shS k n seg ln z).val, .int .i64 (shE k n seg ln z : Nat)]) ∧ w.grownBy w' none := by
  have hc := fun w => refCheck_n k n seg happy a ln c w
  by_cases hg : good k n seg ln
  · have h0 := chE_good hg
    rw [h0] at hc
    have HC := Lib.hid hc
    clear hc h0
    by_cases hz : sized z
    · have hz0 := hz
      obtain ⟨z1, z2⟩ := hz
      have hg0 := hg
      obtain ⟨h1, h2, h3, h4, h5, h6, h7⟩ := hg
      obtain ⟨K, rfl⟩ : ∃ K : Nat, k = (K : Int) := ⟨k.toNat, by omega⟩
      obtain ⟨N, rfl⟩ : ∃ K : Nat, n = (K : Int) := ⟨n.toNat, by omega⟩
      obtain ⟨SG, rfl⟩ : ∃ K : Nat, seg = (K : Int) := ⟨seg.toNat, by omega⟩
      obtain ⟨Z, rfl⟩ : ∃ K : Nat, z = (K : Int) := ⟨z.toNat, by omega⟩
      have hG : segT (K : Int) (SG : Int) = K * upN SG K := by simp [segT]
      have hlt := upN_lt (a := SG) (b := K) (by omega)
      have hpos := upN_pos (a := SG) (b := K) (by omega) (by omega)
      have hle : K * upN SG K ≤ 65791 := by rw [Nat.mul_comm]; omega
      have hge : 1 ≤ K * upN SG K := Nat.mul_pos (by omega) (by omega)
      have hnum : Nums K (segT (K : Int) (SG : Int)) Z := ⟨by omega, by omega, by rw [hG]; exact hge, by rw [hG]; exact hle, by omega, by omega⟩
      obtain ⟨s, t, q, l, p, L⟩ := nums_laid hnum
      have hL := L.val (n := N)
      have hu := fun w => refUp_n SG K w (by omega) (by omega) (by omega)
      have hs := fun w => refLaid_n K N (segT (K : Int) (SG : Int)) Z w hnum
      rw [hL] at hs
      have m0 : (K : Int) * ((upN SG K : Nat) : Int) = ((segT (K : Int) (SG : Int) : Nat) : Int) := by rw [hG]; exact (Int.natCast_mul _ _).symm
      have m1 : IntKind.i64.wrap ((K : Int) * ((upN SG K : Nat) : Int)) = ((segT (K : Int) (SG : Int) : Nat) : Int) := by rw [m0]; exact IntWalk.i64_in _ (by rw [hG]; omega)
      have m2 : wrap64 ((K : Int) * ((upN SG K : Nat) : Int)) = ((segT (K : Int) (SG : Int) : Nat) : Int) := by rw [m0]; exact IntWalk.wrap64_in _ (by rw [hG]; omega)
      refine (refShape_g K N SG Z (upN SG K) (segT (K : Int) (SG : Int)) s t q l happy a ln c w (by omega) (by omega) (fun w => HC.out w) hu hs m1 m2).mono ?_
      rintro e w' ⟨rfl, hgr⟩
      refine ⟨?_, hgr⟩
      have hseg : segsN (segT (K : Int) (SG : Int)) ((Z : Int)).toNat = s := L.e1
      by_cases hsg : s ≤ 512
      · have h0 : shE (K : Int) N SG ln Z = 0 := shE_zero.2 ⟨hg0, hz0, by rw [hseg]; exact hsg⟩
        rw [if_pos hsg, h0]
        unfold shS
        rw [if_pos h0]
        simp only [Int.toNat_natCast]
        rw [hL]
        rfl
      · have h0 : shE (K : Int) N SG ln Z = 3 := shE_many hg0 hz0 (by rw [hseg]; exact hsg)
        rw [if_neg hsg, shS_no (by rw [h0]; decide), h0]
        rfl
    · rw [shS_no (by rw [shE_size hg hz]; decide), shE_size hg hz]
      have hz' : z ≤ 32 ∨ 16777216 < z := by unfold sized at hz; omega
      clear hg hz
      unfold prV at *
      rcases hz' with hz' | hz'
      · skip
        show Calls Try.prog 31 #[.agg #[.int .i64 k, .int .i64 n, .int .i64 seg, .int .i64 happy, .slice a ln c], .int .i64 z] w fun e w' => e = .returned (.tuple #[.agg #[.int .i64 0, .int .i64 0, .int .i64 0, .int .i64 0, .int .i64 0, .int .i64 0, .int .i64 0, .int .i64 0], .int .i64 4]) ∧ w.grownBy w' none
        go_enter Try.func31, Try.ntmps31
        go_wp2_with fail
        refine (HC.out _).mono ?_
        rintro e w1 ⟨rfl, g⟩
        have hcell := grown_at g
        have hfroz := grown_fr g
        go_wp2_with fail
        (try simp only [Exit.inBlock, Exit.then])
        refine bodyPost_ret (by simp [*, results, Try.results31, go_sem]; try rfl) rfl ?_
        refine ⟨rfl, ?_⟩
        repeat (refine grownBy_old ?_ (grownBy_setCell _ _ _ _) (by simp))
        exact grownBy_trans (grownBy_al (World.grownBy_alloc _ _ _) _) g
      · by_cases hz2 : z ≤ 32
        · omega
        show Calls Try.prog 31 #[.agg #[.int .i64 k, .int .i64 n, .int .i64 seg, .int .i64 happy, .slice a ln c], .int .i64 z] w fun e w' => e = .returned (.tuple #[.agg #[.int .i64 0, .int .i64 0, .int .i64 0, .int .i64 0, .int .i64 0, .int .i64 0, .int .i64 0, .int .i64 0], .int .i64 4]) ∧ w.grownBy w' none
        go_enter Try.func31, Try.ntmps31
        go_wp2_with fail
        refine (HC.out _).mono ?_
        rintro e w1 ⟨rfl, g⟩
        have hcell := grown_at g
        have hfroz := grown_fr g
        go_wp2_with fail
        (try simp only [Exit.inBlock, Exit.then])
        refine bodyPost_ret (by simp [*, results, Try.results31, go_sem]; try rfl) rfl ?_
        refine ⟨rfl, ?_⟩
        repeat (refine grownBy_old ?_ (grownBy_setCell _ _ _ _) (by simp))
        exact grownBy_trans (grownBy_al (World.grownBy_alloc _ _ _) _) g
  · have h0 := chE_bad hg
    rw [h0] at hc
    have HC := Lib.hid hc
    rw [shS_no (by rw [shE_bad hg]; decide), shE_bad hg]
    clear hc h0 hg
    unfold prV at *
    show Calls Try.prog 31 #[.agg #[.int .i64 k, .int .i64 n, .int .i64 seg, .int .i64 happy, .slice a ln c], .int .i64 z] w fun e w' => e = .returned (.tuple #[.agg #[.int .i64 0, .int .i64 0, .int .i64 0, .int .i64 0, .int .i64 0, .int .i64 0, .int .i64 0, .int .i64 0], .int .i64 3]) ∧ w.grownBy w' none
    go_enter Try.func31, Try.ntmps31
    go_wp2_with fail
    refine (HC.out _).mono ?_
    rintro e w1 ⟨rfl, g⟩
    have hcell := grown_at g
    have hfroz := grown_fr g
    go_wp2_with fail
    (try simp only [Exit.inBlock, Exit.then])
    refine bodyPost_ret (by simp [*, results, Try.results31, go_sem]; try rfl) rfl ?_
    refine ⟨rfl, ?_⟩
    repeat (refine grownBy_old ?_ (grownBy_setCell _ _ _ _) (by simp))
    exact grownBy_trans (grownBy_al (World.grownBy_alloc _ _ _) _) g

end Go.Proofs.Ytfboddnpkaiifaa
/- the document's Again. -/
namespace Go.Proofs.Ytfboddnpkaiifaa
open Go.RowKit

set_option maxRecDepth 100000 in
set_option maxHeartbeats 4000000 in
theorem refAgain_a (k n seg z : Int) (S1 S2 : Sh) (E1 E2 : Nat) (w : World)
    (h1 : ∀ w, Calls Try.prog 31 #[.agg #[.int .i64 k, .int .i64 n, .int .i64 seg, .int .i64 0, .slice none 0 0], .int .i64 z] w fun e w' => e = .returned (.tuple #[S1.val, .int .i64 (E1 : Nat)]) ∧ w.grownBy w' none)
    (h2 : ∀ w, Calls Try.prog 31 #[.agg #[.int .i64 k, .int .i64 n, .int .i64 65536, .int .i64 0, .slice none 0 0], .int .i64 z] w fun e w' => e = .returned (.tuple #[S2.val, .int .i64 (E2 : Nat)]) ∧ w.grownBy w' none)
    (a1 : E1 = 0) (a2 : S1.seg = seg) :
    Calls Try.prog 35 #[.int .i64 k, .int .i64 n, .int .i64 seg, .int .i64 z] w fun e w' => e = .returned (.tuple #[S1.val, .int .i64 0]) ∧ w.grownBy w' none := by
  obtain ⟨k1', n1', g1', z1', s1', t1', b1', l1'⟩ := S1
  obtain ⟨k2', n2', g2', z2', s2', t2', b2', l2'⟩ := S2
  unfold Sh.val at *
  simp only at *
  have H1 := Lib.hid h1
  have H2 := Lib.hid h2
  clear h1 h2
  subst a1 a2
  go_enter Try.func35, Try.ntmps35
  have HR0 := Lib.hid (heap_alloc_new w (.cells #[.int .i64 0, .int .i64 0, .int .i64 0, .int .i64 0, .int .i64 0, .int .i64 0, .int .i64 0, .int .i64 0] 47))
  have HG0 := Lib.hid (World.grownBy_alloc w (.cells #[.int .i64 0, .int .i64 0, .int .i64 0, .int .i64 0, .int .i64 0, .int .i64 0, .int .i64 0, .int .i64 0] 47) none)
  go_wp2_with fail
  refine wp_loop_rounds 3 ?_
  rw [rounds_succ]
  go_wp2_with fail
  refine (H1.out _).mono ?_
  rintro e w1 ⟨rfl, g1⟩
  have HR1 := Lib.hid (heap_grown HR0.out g1)
  have HG1 := Lib.hid (grownBy_trans HG0.out g1)
  have hl1 : w.heap.size < w1.heap.size := (Array.getElem?_eq_some_iff.1 HR1.out).1
  clear g1
  obtain ⟨V1, hV1⟩ : ∃ W, W = (w1.alloc (.cells #[.int .i64 0, .int .i64 0, .int .i64 0, .int .i64 0, .int .i64 0, .int .i64 0, .int .i64 0, .int .i64 0] 47)).setRow w1.heap.size #[.int .i64 k1', .int .i64 n1', .int .i64 g1', .int .i64 z1', .int .i64 s1', .int .i64 t1', .int .i64 b1', .int .i64 l1'] := ⟨_, rfl⟩
  have hn1 : V1.heap[w1.heap.size]? = some (.cells #[.int .i64 k1', .int .i64 n1', .int .i64 g1', .int .i64 z1', .int .i64 s1', .int .i64 t1', .int .i64 b1', .int .i64 l1'] 47 (0, 0)) := by rw [hV1]; exact setRow_heap _ _ _ _ _ _ (heap_alloc_new _ _)
  have hr1 : V1.heap[w.heap.size]? = some (.cells #[.int .i64 0, .int .i64 0, .int .i64 0, .int .i64 0, .int .i64 0, .int .i64 0, .int .i64 0, .int .i64 0] 47 (0, 0)) := by rw [hV1]; exact (setRow_other _ w1.heap.size w.heap.size _ (by omega)).trans (heap_grown HR1.out (World.grownBy_alloc _ _ none))
  have hg1 : w.grownBy V1 none := by rw [hV1]; exact grownBy_old (grownBy_trans HG1.out (World.grownBy_alloc _ _ none)) (grownBy_setRow _ w1.heap.size #[.int .i64 k1', .int .i64 n1', .int .i64 g1', .int .i64 z1', .int .i64 s1', .int .i64 t1', .int .i64 b1', .int .i64 l1']) (by omega)
  have c2_1 : V1.cell? ⟨w1.heap.size, 2, none⟩ = some (.int .i64 g1') := by simp only [World.cell?, hn1]; rfl
  have HN1 := Lib.hid hn1
  have HS1 := Lib.hid hr1
  have HT1 := Lib.hid hg1
  have HV1 := Lib.hid hV1
  clear hn1 hr1 hg1 hV1
  go_wp2_with (first | (refine wpList_store_row rfl 47 _ _ rfl w1.heap.size #[.int .i64 k1', .int .i64 n1', .int .i64 g1', .int .i64 z1', .int .i64 s1', .int .i64 t1', .int .i64 b1', .int .i64 l1'] rfl rfl 47 _ (heap_alloc_new w1 (.cells #[.int .i64 0, .int .i64 0, .int .i64 0, .int .i64 0, .int .i64 0, .int .i64 0, .int .i64 0, .int .i64 0] 47)) size_shape rfl (by simp [Value.oneCell']) ?_; rw [← HV1.out]) | (refine wpList_load_row rfl 47 _ rfl w1.heap.size rfl 47 #[.int .i64 k1', .int .i64 n1', .int .i64 g1', .int .i64 z1', .int .i64 s1', .int .i64 t1', .int .i64 b1', .int .i64 l1'] (0, 0) _ HN1.out Try.underlying47 rfl size_shape ?_) | (refine wpList_store_row rfl 47 _ _ rfl w.heap.size #[.int .i64 k1', .int .i64 n1', .int .i64 g1', .int .i64 z1', .int .i64 s1', .int .i64 t1', .int .i64 b1', .int .i64 l1'] rfl rfl 47 _ HS1.out size_shape rfl (by simp [Value.oneCell']) ?_) | (refine wpList_store_row rfl 47 _ _ rfl w.heap.size #[.int .i64 0, .int .i64 0, .int .i64 0, .int .i64 0, .int .i64 0, .int .i64 0, .int .i64 0, .int .i64 0] rfl rfl 47 _ HS1.out size_shape rfl (by simp [Value.oneCell']) ?_))
  refine bodyPost_ret (v := .tuple #[.agg #[.int .i64 k1', .int .i64 n1', .int .i64 g1', .int .i64 z1', .int .i64 s1', .int .i64 t1', .int .i64 b1', .int .i64 l1'], .int .i64 0]) (results_ct rfl _ _ w.heap.size 47 #[.int .i64 k1', .int .i64 n1', .int .i64 g1', .int .i64 z1', .int .i64 s1', .int .i64 t1', .int .i64 b1', .int .i64 l1'] (0, 0) _ _ rfl rfl (setRow_heap _ _ _ _ _ _ HS1.out) Try.underlying47 rfl size_shape) rfl ⟨rfl, ?_⟩
  exact grownBy_old HT1.out (grownBy_setRow _ _ _) (by omega)

set_option maxRecDepth 100000 in
set_option maxHeartbeats 4000000 in
theorem refAgain_b (k n seg z : Int) (S1 S2 : Sh) (E1 E2 : Nat) (w : World)
    (h1 : ∀ w, Calls Try.prog 31 #[.agg #[.int .i64 k, .int .i64 n, .int .i64 seg, .int .i64 0, .slice none 0 0], .int .i64 z] w fun e w' => e = .returned (.tuple #[S1.val, .int .i64 (E1 : Nat)]) ∧ w.grownBy w' none)
    (h2 : ∀ w, Calls Try.prog 31 #[.agg #[.int .i64 k, .int .i64 n, .int .i64 65536, .int .i64 0, .slice none 0 0], .int .i64 z] w fun e w' => e = .returned (.tuple #[S2.val, .int .i64 (E2 : Nat)]) ∧ w.grownBy w' none)
    (a1 : ¬ (E1 = 0 ∧ S1.seg = seg)) (a2 : E2 = 0) (a3 : S2.seg = seg) :
    Calls Try.prog 35 #[.int .i64 k, .int .i64 n, .int .i64 seg, .int .i64 z] w fun e w' => e = .returned (.tuple #[S2.val, .int .i64 0]) ∧ w.grownBy w' none := by
  obtain ⟨k1', n1', g1', z1', s1', t1', b1', l1'⟩ := S1
  obtain ⟨k2', n2', g2', z2', s2', t2', b2', l2'⟩ := S2
  unfold Sh.val at *
  simp only at *
  have H1 := Lib.hid h1
  have H2 := Lib.hid h2
  clear h1 h2
  subst a2 a3
  go_enter Try.func35, Try.ntmps35
  have HR0 := Lib.hid (heap_alloc_new w (.cells #[.int .i64 0, .int .i64 0, .int .i64 0, .int .i64 0, .int .i64 0, .int .i64 0, .int .i64 0, .int .i64 0] 47))
  have HG0 := Lib.hid (World.grownBy_alloc w (.cells #[.int .i64 0, .int .i64 0, .int .i64 0, .int .i64 0, .int .i64 0, .int .i64 0, .int .i64 0, .int .i64 0] 47) none)
  go_wp2_with fail
  refine wp_loop_rounds 3 ?_
  rw [rounds_succ]
  go_wp2_with fail
  refine (H1.out _).mono ?_
  rintro e w1 ⟨rfl, g1⟩
  have HR1 := Lib.hid (heap_grown HR0.out g1)
  have HG1 := Lib.hid (grownBy_trans HG0.out g1)
  have hl1 : w.heap.size < w1.heap.size := (Array.getElem?_eq_some_iff.1 HR1.out).1
  clear g1
  obtain ⟨V1, hV1⟩ : ∃ W, W = (w1.alloc (.cells #[.int .i64 0, .int .i64 0, .int .i64 0, .int .i64 0, .int .i64 0, .int .i64 0, .int .i64 0, .int .i64 0] 47)).setRow w1.heap.size #[.int .i64 k1', .int .i64 n1', .int .i64 g1', .int .i64 z1', .int .i64 s1', .int .i64 t1', .int .i64 b1', .int .i64 l1'] := ⟨_, rfl⟩
  have hn1 : V1.heap[w1.heap.size]? = some (.cells #[.int .i64 k1', .int .i64 n1', .int .i64 g1', .int .i64 z1', .int .i64 s1', .int .i64 t1', .int .i64 b1', .int .i64 l1'] 47 (0, 0)) := by rw [hV1]; exact setRow_heap _ _ _ _ _ _ (heap_alloc_new _ _)
  have hr1 : V1.heap[w.heap.size]? = some (.cells #[.int .i64 0, .int .i64 0, .int .i64 0, .int .i64 0, .int .i64 0, .int .i64 0, .int .i64 0, .int .i64 0] 47 (0, 0)) := by rw [hV1]; exact (setRow_other _ w1.heap.size w.heap.size _ (by omega)).trans (heap_grown HR1.out (World.grownBy_alloc _ _ none))
  have hg1 : w.grownBy V1 none := by rw [hV1]; exact grownBy_old (grownBy_trans HG1.out (World.grownBy_alloc _ _ none)) (grownBy_setRow _ w1.heap.size #[.int .i64 k1', .int .i64 n1', .int .i64 g1', .int .i64 z1', .int .i64 s1', .int .i64 t1', .int .i64 b1', .int .i64 l1']) (by omega)
  have c2_1 : V1.cell? ⟨w1.heap.size, 2, none⟩ = some (.int .i64 g1') := by simp only [World.cell?, hn1]; rfl
  have HN1 := Lib.hid hn1
  have HS1 := Lib.hid hr1
  have HT1 := Lib.hid hg1
  have HV1 := Lib.hid hV1
  clear hn1 hr1 hg1 hV1
  by_cases e1 : E1 = 0
  · have e2 : ¬ g1' = g2' := fun h => a1 ⟨e1, h⟩
    subst e1
    clear a1
    go_wp2_with (first | (refine wpList_store_row rfl 47 _ _ rfl w1.heap.size #[.int .i64 k1', .int .i64 n1', .int .i64 g1', .int .i64 z1', .int .i64 s1', .int .i64 t1', .int .i64 b1', .int .i64 l1'] rfl rfl 47 _ (heap_alloc_new w1 (.cells #[.int .i64 0, .int .i64 0, .int .i64 0, .int .i64 0, .int .i64 0, .int .i64 0, .int .i64 0, .int .i64 0] 47)) size_shape rfl (by simp [Value.oneCell']) ?_; rw [← HV1.out]) | (refine wpList_load_row rfl 47 _ rfl w1.heap.size rfl 47 #[.int .i64 k1', .int .i64 n1', .int .i64 g1', .int .i64 z1', .int .i64 s1', .int .i64 t1', .int .i64 b1', .int .i64 l1'] (0, 0) _ HN1.out Try.underlying47 rfl size_shape ?_) | (refine wpList_store_row rfl 47 _ _ rfl w.heap.size #[.int .i64 k1', .int .i64 n1', .int .i64 g1', .int .i64 z1', .int .i64 s1', .int .i64 t1', .int .i64 b1', .int .i64 l1'] rfl rfl 47 _ HS1.out size_shape rfl (by simp [Value.oneCell']) ?_) | (refine wpList_store_row rfl 47 _ _ rfl w.heap.size #[.int .i64 0, .int .i64 0, .int .i64 0, .int .i64 0, .int .i64 0, .int .i64 0, .int .i64 0, .int .i64 0] rfl rfl 47 _ HS1.out size_shape rfl (by simp [Value.oneCell']) ?_))
    rw [rounds_succ]
    go_wp2_with fail
    refine (H2.out _).mono ?_
    rintro e w2 ⟨rfl, g2⟩
    have HR2 := Lib.hid (heap_grown HS1.out g2)
    have HG2 := Lib.hid (grownBy_trans HT1.out g2)
    have hl2 : w.heap.size < w2.heap.size := (Array.getElem?_eq_some_iff.1 HR2.out).1
    clear g2
    obtain ⟨V2, hV2⟩ : ∃ W, W = (w2.alloc (.cells #[.int .i64 0, .int .i64 0, .int .i64 0, .int .i64 0, .int .i64 0, .int .i64 0, .int .i64 0, .int .i64 0] 47)).setRow w2.heap.size #[.int .i64 k2', .int .i64 n2', .int .i64 g2', .int .i64 z2', .int .i64 s2', .int .i64 t2', .int .i64 b2', .int .i64 l2'] := ⟨_, rfl⟩
    have hn2 : V2.heap[w2.heap.size]? = some (.cells #[.int .i64 k2', .int .i64 n2', .int .i64 g2', .int .i64 z2', .int .i64 s2', .int .i64 t2', .int .i64 b2', .int .i64 l2'] 47 (0, 0)) := by rw [hV2]; exact setRow_heap _ _ _ _ _ _ (heap_alloc_new _ _)
    have hr2 : V2.heap[w.heap.size]? = some (.cells #[.int .i64 0, .int .i64 0, .int .i64 0, .int .i64 0, .int .i64 0, .int .i64 0, .int .i64 0, .int .i64 0] 47 (0, 0)) := by rw [hV2]; exact (setRow_other _ w2.heap.size w.heap.size _ (by omega)).trans (heap_grown HR2.out (World.grownBy_alloc _ _ none))
    have hg2 : w.grownBy V2 none := by rw [hV2]; exact grownBy_old (grownBy_trans HG2.out (World.grownBy_alloc _ _ none)) (grownBy_setRow _ w2.heap.size #[.int .i64 k2', .int .i64 n2', .int .i64 g2', .int .i64 z2', .int .i64 s2', .int .i64 t2', .int .i64 b2', .int .i64 l2']) (by omega)
    have c2_2 : V2.cell? ⟨w2.heap.size, 2, none⟩ = some (.int .i64 g2') := by simp only [World.cell?, hn2]; rfl
    have HN2 := Lib.hid hn2
    have HS2 := Lib.hid hr2
    have HT2 := Lib.hid hg2
    have HV2 := Lib.hid hV2
    clear hn2 hr2 hg2 hV2
    go_wp2_with (first | (refine wpList_store_row rfl 47 _ _ rfl w2.heap.size #[.int .i64 k2', .int .i64 n2', .int .i64 g2', .int .i64 z2', .int .i64 s2', .int .i64 t2', .int .i64 b2', .int .i64 l2'] rfl rfl 47 _ (heap_alloc_new w2 (.cells #[.int .i64 0, .int .i64 0, .int .i64 0, .int .i64 0, .int .i64 0, .int .i64 0, .int .i64 0, .int .i64 0] 47)) size_shape rfl (by simp [Value.oneCell']) ?_; rw [← HV2.out]) | (refine wpList_load_row rfl 47 _ rfl w2.heap.size rfl 47 #[.int .i64 k2', .int .i64 n2', .int .i64 g2', .int .i64 z2', .int .i64 s2', .int .i64 t2', .int .i64 b2', .int .i64 l2'] (0, 0) _ HN2.out Try.underlying47 rfl size_shape ?_) | (refine wpList_store_row rfl 47 _ _ rfl w.heap.size #[.int .i64 k2', .int .i64 n2', .int .i64 g2', .int .i64 z2', .int .i64 s2', .int .i64 t2', .int .i64 b2', .int .i64 l2'] rfl rfl 47 _ HS2.out size_shape rfl (by simp [Value.oneCell']) ?_) | (refine wpList_store_row rfl 47 _ _ rfl w.heap.size #[.int .i64 0, .int .i64 0, .int .i64 0, .int .i64 0, .int .i64 0, .int .i64 0, .int .i64 0, .int .i64 0] rfl rfl 47 _ HS2.out size_shape rfl (by simp [Value.oneCell']) ?_))
    refine bodyPost_ret (v := .tuple #[.agg #[.int .i64 k2', .int .i64 n2', .int .i64 g2', .int .i64 z2', .int .i64 s2', .int .i64 t2', .int .i64 b2', .int .i64 l2'], .int .i64 0]) (results_ct rfl _ _ w.heap.size 47 #[.int .i64 k2', .int .i64 n2', .int .i64 g2', .int .i64 z2', .int .i64 s2', .int .i64 t2', .int .i64 b2', .int .i64 l2'] (0, 0) _ _ rfl rfl (setRow_heap _ _ _ _ _ _ HS2.out) Try.underlying47 rfl size_shape) rfl ⟨rfl, ?_⟩
    exact grownBy_old HT2.out (grownBy_setRow _ _ _) (by omega)
  · have e2 : ¬ ((E1 : Nat) : Int) = 0 := by omega
    clear a1 e1
    go_wp2_with (first | (refine wpList_store_row rfl 47 _ _ rfl w1.heap.size #[.int .i64 k1', .int .i64 n1', .int .i64 g1', .int .i64 z1', .int .i64 s1', .int .i64 t1', .int .i64 b1', .int .i64 l1'] rfl rfl 47 _ (heap_alloc_new w1 (.cells #[.int .i64 0, .int .i64 0, .int .i64 0, .int .i64 0, .int .i64 0, .int .i64 0, .int .i64 0, .int .i64 0] 47)) size_shape rfl (by simp [Value.oneCell']) ?_; rw [← HV1.out]) | (refine wpList_load_row rfl 47 _ rfl w1.heap.size rfl 47 #[.int .i64 k1', .int .i64 n1', .int .i64 g1', .int .i64 z1', .int .i64 s1', .int .i64 t1', .int .i64 b1', .int .i64 l1'] (0, 0) _ HN1.out Try.underlying47 rfl size_shape ?_) | (refine wpList_store_row rfl 47 _ _ rfl w.heap.size #[.int .i64 k1', .int .i64 n1', .int .i64 g1', .int .i64 z1', .int .i64 s1', .int .i64 t1', .int .i64 b1', .int .i64 l1'] rfl rfl 47 _ HS1.out size_shape rfl (by simp [Value.oneCell']) ?_) | (refine wpList_store_row rfl 47 _ _ rfl w.heap.size #[.int .i64 0, .int .i64 0, .int .i64 0, .int .i64 0, .int .i64 0, .int .i64 0, .int .i64 0, .int .i64 0] rfl rfl 47 _ HS1.out size_shape rfl (by simp [Value.oneCell']) ?_))
    rw [rounds_succ]
    go_wp2_with fail
    refine (H2.out _).mono ?_
    rintro e w2 ⟨rfl, g2⟩
    have HR2 := Lib.hid (heap_grown HS1.out g2)
    have HG2 := Lib.hid (grownBy_trans HT1.out g2)
    have hl2 : w.heap.size < w2.heap.size := (Array.getElem?_eq_some_iff.1 HR2.out).1
    clear g2
    obtain ⟨V2, hV2⟩ : ∃ W, W = (w2.alloc (.cells #[.int .i64 0, .int .i64 0, .int .i64 0, .int .i64 0, .int .i64 0, .int .i64 0, .int .i64 0, .int .i64 0] 47)).setRow w2.heap.size #[.int .i64 k2', .int .i64 n2', .int .i64 g2', .int .i64 z2', .int .i64 s2', .int .i64 t2', .int .i64 b2', .int .i64 l2'] := ⟨_, rfl⟩
    have hn2 : V2.heap[w2.heap.size]? = some (.cells #[.int .i64 k2', .int .i64 n2', .int .i64 g2', .int .i64 z2', .int .i64 s2', .int .i64 t2', .int .i64 b2', .int .i64 l2'] 47 (0, 0)) := by rw [hV2]; exact setRow_heap _ _ _ _ _ _ (heap_alloc_new _ _)
    have hr2 : V2.heap[w.heap.size]? = some (.cells #[.int .i64 0, .int .i64 0, .int .i64 0, .int .i64 0, .int .i64 0, .int .i64 0, .int .i64 0, .int .i64 0] 47 (0, 0)) := by rw [hV2]; exact (setRow_other _ w2.heap.size w.heap.size _ (by omega)).trans (heap_grown HR2.out (World.grownBy_alloc _ _ none))
    have hg2 : w.grownBy V2 none := by rw [hV2]; exact grownBy_old (grownBy_trans HG2.out (World.grownBy_alloc _ _ none)) (grownBy_setRow _ w2.heap.size #[.int .i64 k2', .int .i64 n2', .int .i64 g2', .int .i64 z2', .int .i64 s2', .int .i64 t2', .int .i64 b2', .int .i64 l2']) (by omega)
    have c2_2 : V2.cell? ⟨w2.heap.size, 2, none⟩ = some (.int .i64 g2') := by simp only [World.cell?, hn2]; rfl
    have HN2 := Lib.hid hn2
    have HS2 := Lib.hid hr2
    have HT2 := Lib.hid hg2
    have HV2 := Lib.hid hV2
    clear hn2 hr2 hg2 hV2
    go_wp2_with (first | (refine wpList_store_row rfl 47 _ _ rfl w2.heap.size #[.int .i64 k2', .int .i64 n2', .int .i64 g2', .int .i64 z2', .int .i64 s2', .int .i64 t2', .int .i64 b2', .int .i64 l2'] rfl rfl 47 _ (heap_alloc_new w2 (.cells #[.int .i64 0, .int .i64 0, .int .i64 0, .int .i64 0, .int .i64 0, .int .i64 0, .int .i64 0, .int .i64 0] 47)) size_shape rfl (by simp [Value.oneCell']) ?_; rw [← HV2.out]) | (refine wpList_load_row rfl 47 _ rfl w2.heap.size rfl 47 #[.int .i64 k2', .int .i64 n2', .int .i64 g2', .int .i64 z2', .int .i64 s2', .int .i64 t2', .int .i64 b2', .int .i64 l2'] (0, 0) _ HN2.out Try.underlying47 rfl size_shape ?_) | (refine wpList_store_row rfl 47 _ _ rfl w.heap.size #[.int .i64 k2', .int .i64 n2', .int .i64 g2', .int .i64 z2', .int .i64 s2', .int .i64 t2', .int .i64 b2', .int .i64 l2'] rfl rfl 47 _ HS2.out size_shape rfl (by simp [Value.oneCell']) ?_) | (refine wpList_store_row rfl 47 _ _ rfl w.heap.size #[.int .i64 0, .int .i64 0, .int .i64 0, .int .i64 0, .int .i64 0, .int .i64 0, .int .i64 0, .int .i64 0] rfl rfl 47 _ HS2.out size_shape rfl (by simp [Value.oneCell']) ?_))
    refine bodyPost_ret (v := .tuple #[.agg #[.int .i64 k2', .int .i64 n2', .int .i64 g2', .int .i64 z2', .int .i64 s2', .int .i64 t2', .int .i64 b2', .int .i64 l2'], .int .i64 0]) (results_ct rfl _ _ w.heap.size 47 #[.int .i64 k2', .int .i64 n2', .int .i64 g2', .int .i64 z2', .int .i64 s2', .int .i64 t2', .int .i64 b2', .int .i64 l2'] (0, 0) _ _ rfl rfl (setRow_heap _ _ _ _ _ _ HS2.out) Try.underlying47 rfl size_shape) rfl ⟨rfl, ?_⟩
    exact grownBy_old HT2.out (grownBy_setRow _ _ _) (by omega)

set_option maxRecDepth 100000 in
set_option maxHeartbeats 4000000 in
theorem refAgain_c (k n seg z : Int) (S1 S2 : Sh) (E1 E2 : Nat) (w : World)
    (h1 : ∀ w, Calls Try.prog 31 #[.agg #[.int .i64 k, .int .i64 n, .int .i64 seg, .int .i64 0, .slice none 0 0], .int .i64 z] w fun e w' => e = .returned (.tuple #[S1.val, .int .i64 (E1 : Nat)]) ∧ w.grownBy w' none)
    (h2 : ∀ w, Calls Try.prog 31 #[.agg #[.int .i64 k, .int .i64 n, .int .i64 65536, .int .i64 0, .slice none 0 0], .int .i64 z] w fun e w' => e = .returned (.tuple #[S2.val, .int .i64 (E2 : Nat)]) ∧ w.grownBy w' none)
    (a1 : ¬ (E1 = 0 ∧ S1.seg = seg)) (a2 : ¬ (E2 = 0 ∧ S2.seg = seg)) :
    Calls Try.prog 35 #[.int .i64 k, .int .i64 n, .int .i64 seg, .int .i64 z] w fun e w' => e = .returned (.tuple #[.agg #[.int .i64 0, .int .i64 0, .int .i64 0, .int .i64 0, .int .i64 0, .int .i64 0, .int .i64 0, .int .i64 0], .int .i64 92]) ∧ w.grownBy w' none := by
  obtain ⟨k1', n1', g1', z1', s1', t1', b1', l1'⟩ := S1
  obtain ⟨k2', n2', g2', z2', s2', t2', b2', l2'⟩ := S2
  unfold Sh.val at *
  simp only at *
  have H1 := Lib.hid h1
  have H2 := Lib.hid h2
  clear h1 h2
  go_enter Try.func35, Try.ntmps35
  have HR0 := Lib.hid (heap_alloc_new w (.cells #[.int .i64 0, .int .i64 0, .int .i64 0, .int .i64 0, .int .i64 0, .int .i64 0, .int .i64 0, .int .i64 0] 47))
  have HG0 := Lib.hid (World.grownBy_alloc w (.cells #[.int .i64 0, .int .i64 0, .int .i64 0, .int .i64 0, .int .i64 0, .int .i64 0, .int .i64 0, .int .i64 0] 47) none)
  go_wp2_with fail
  refine wp_loop_rounds 3 ?_
  rw [rounds_succ]
  go_wp2_with fail
  refine (H1.out _).mono ?_
  rintro e w1 ⟨rfl, g1⟩
  have HR1 := Lib.hid (heap_grown HR0.out g1)
  have HG1 := Lib.hid (grownBy_trans HG0.out g1)
  have hl1 : w.heap.size < w1.heap.size := (Array.getElem?_eq_some_iff.1 HR1.out).1
  clear g1
  obtain ⟨V1, hV1⟩ : ∃ W, W = (w1.alloc (.cells #[.int .i64 0, .int .i64 0, .int .i64 0, .int .i64 0, .int .i64 0, .int .i64 0, .int .i64 0, .int .i64 0] 47)).setRow w1.heap.size #[.int .i64 k1', .int .i64 n1', .int .i64 g1', .int .i64 z1', .int .i64 s1', .int .i64 t1', .int .i64 b1', .int .i64 l1'] := ⟨_, rfl⟩
  have hn1 : V1.heap[w1.heap.size]? = some (.cells #[.int .i64 k1', .int .i64 n1', .int .i64 g1', .int .i64 z1', .int .i64 s1', .int .i64 t1', .int .i64 b1', .int .i64 l1'] 47 (0, 0)) := by rw [hV1]; exact setRow_heap _ _ _ _ _ _ (heap_alloc_new _ _)
  have hr1 : V1.heap[w.heap.size]? = some (.cells #[.int .i64 0, .int .i64 0, .int .i64 0, .int .i64 0, .int .i64 0, .int .i64 0, .int .i64 0, .int .i64 0] 47 (0, 0)) := by rw [hV1]; exact (setRow_other _ w1.heap.size w.heap.size _ (by omega)).trans (heap_grown HR1.out (World.grownBy_alloc _ _ none))
  have hg1 : w.grownBy V1 none := by rw [hV1]; exact grownBy_old (grownBy_trans HG1.out (World.grownBy_alloc _ _ none)) (grownBy_setRow _ w1.heap.size #[.int .i64 k1', .int .i64 n1', .int .i64 g1', .int .i64 z1', .int .i64 s1', .int .i64 t1', .int .i64 b1', .int .i64 l1']) (by omega)
  have c2_1 : V1.cell? ⟨w1.heap.size, 2, none⟩ = some (.int .i64 g1') := by simp only [World.cell?, hn1]; rfl
  have HN1 := Lib.hid hn1
  have HS1 := Lib.hid hr1
  have HT1 := Lib.hid hg1
  have HV1 := Lib.hid hV1
  clear hn1 hr1 hg1 hV1
  by_cases e1 : E1 = 0
  · have e2 : ¬ g1' = seg := fun h => a1 ⟨e1, h⟩
    subst e1
    clear a1
    go_wp2_with (first | (refine wpList_store_row rfl 47 _ _ rfl w1.heap.size #[.int .i64 k1', .int .i64 n1', .int .i64 g1', .int .i64 z1', .int .i64 s1', .int .i64 t1', .int .i64 b1', .int .i64 l1'] rfl rfl 47 _ (heap_alloc_new w1 (.cells #[.int .i64 0, .int .i64 0, .int .i64 0, .int .i64 0, .int .i64 0, .int .i64 0, .int .i64 0, .int .i64 0] 47)) size_shape rfl (by simp [Value.oneCell']) ?_; rw [← HV1.out]) | (refine wpList_load_row rfl 47 _ rfl w1.heap.size rfl 47 #[.int .i64 k1', .int .i64 n1', .int .i64 g1', .int .i64 z1', .int .i64 s1', .int .i64 t1', .int .i64 b1', .int .i64 l1'] (0, 0) _ HN1.out Try.underlying47 rfl size_shape ?_) | (refine wpList_store_row rfl 47 _ _ rfl w.heap.size #[.int .i64 k1', .int .i64 n1', .int .i64 g1', .int .i64 z1', .int .i64 s1', .int .i64 t1', .int .i64 b1', .int .i64 l1'] rfl rfl 47 _ HS1.out size_shape rfl (by simp [Value.oneCell']) ?_) | (refine wpList_store_row rfl 47 _ _ rfl w.heap.size #[.int .i64 0, .int .i64 0, .int .i64 0, .int .i64 0, .int .i64 0, .int .i64 0, .int .i64 0, .int .i64 0] rfl rfl 47 _ HS1.out size_shape rfl (by simp [Value.oneCell']) ?_))
    rw [rounds_succ]
    go_wp2_with fail
    refine (H2.out _).mono ?_
    rintro e w2 ⟨rfl, g2⟩
    have HR2 := Lib.hid (heap_grown HS1.out g2)
    have HG2 := Lib.hid (grownBy_trans HT1.out g2)
    have hl2 : w.heap.size < w2.heap.size := (Array.getElem?_eq_some_iff.1 HR2.out).1
    clear g2
    obtain ⟨V2, hV2⟩ : ∃ W, W = (w2.alloc (.cells #[.int .i64 0, .int .i64 0, .int .i64 0, .int .i64 0, .int .i64 0, .int .i64 0, .int .i64 0, .int .i64 0] 47)).setRow w2.heap.size #[.int .i64 k2', .int .i64 n2', .int .i64 g2', .int .i64 z2', .int .i64 s2', .int .i64 t2', .int .i64 b2', .int .i64 l2'] := ⟨_, rfl⟩
    have hn2 : V2.heap[w2.heap.size]? = some (.cells #[.int .i64 k2', .int .i64 n2', .int .i64 g2', .int .i64 z2', .int .i64 s2', .int .i64 t2', .int .i64 b2', .int .i64 l2'] 47 (0, 0)) := by rw [hV2]; exact setRow_heap _ _ _ _ _ _ (heap_alloc_new _ _)
    have hr2 : V2.heap[w.heap.size]? = some (.cells #[.int .i64 0, .int .i64 0, .int .i64 0, .int .i64 0, .int .i64 0, .int .i64 0, .int .i64 0, .int .i64 0] 47 (0, 0)) := by rw [hV2]; exact (setRow_other _ w2.heap.size w.heap.size _ (by omega)).trans (heap_grown HR2.out (World.grownBy_alloc _ _ none))
    have hg2 : w.grownBy V2 none := by rw [hV2]; exact grownBy_old (grownBy_trans HG2.out (World.grownBy_alloc _ _ none)) (grownBy_setRow _ w2.heap.size #[.int .i64 k2', .int .i64 n2', .int .i64 g2', .int .i64 z2', .int .i64 s2', .int .i64 t2', .int .i64 b2', .int .i64 l2']) (by omega)
    have c2_2 : V2.cell? ⟨w2.heap.size, 2, none⟩ = some (.int .i64 g2') := by simp only [World.cell?, hn2]; rfl
    have HN2 := Lib.hid hn2
    have HS2 := Lib.hid hr2
    have HT2 := Lib.hid hg2
    have HV2 := Lib.hid hV2
    clear hn2 hr2 hg2 hV2
    by_cases e3 : E2 = 0
    · have e4 : ¬ g2' = seg := fun h => a2 ⟨e3, h⟩
      subst e3
      clear a2
      go_wp2_with (first | (refine wpList_store_row rfl 47 _ _ rfl w2.heap.size #[.int .i64 k2', .int .i64 n2', .int .i64 g2', .int .i64 z2', .int .i64 s2', .int .i64 t2', .int .i64 b2', .int .i64 l2'] rfl rfl 47 _ (heap_alloc_new w2 (.cells #[.int .i64 0, .int .i64 0, .int .i64 0, .int .i64 0, .int .i64 0, .int .i64 0, .int .i64 0, .int .i64 0] 47)) size_shape rfl (by simp [Value.oneCell']) ?_; rw [← HV2.out]) | (refine wpList_load_row rfl 47 _ rfl w2.heap.size rfl 47 #[.int .i64 k2', .int .i64 n2', .int .i64 g2', .int .i64 z2', .int .i64 s2', .int .i64 t2', .int .i64 b2', .int .i64 l2'] (0, 0) _ HN2.out Try.underlying47 rfl size_shape ?_) | (refine wpList_store_row rfl 47 _ _ rfl w.heap.size #[.int .i64 k2', .int .i64 n2', .int .i64 g2', .int .i64 z2', .int .i64 s2', .int .i64 t2', .int .i64 b2', .int .i64 l2'] rfl rfl 47 _ HS2.out size_shape rfl (by simp [Value.oneCell']) ?_) | (refine wpList_store_row rfl 47 _ _ rfl w.heap.size #[.int .i64 0, .int .i64 0, .int .i64 0, .int .i64 0, .int .i64 0, .int .i64 0, .int .i64 0, .int .i64 0] rfl rfl 47 _ HS2.out size_shape rfl (by simp [Value.oneCell']) ?_))
      rw [rounds_succ]
      go_wp2_with (first | (refine wpList_store_row rfl 47 _ _ rfl w2.heap.size #[.int .i64 k2', .int .i64 n2', .int .i64 g2', .int .i64 z2', .int .i64 s2', .int .i64 t2', .int .i64 b2', .int .i64 l2'] rfl rfl 47 _ (heap_alloc_new w2 (.cells #[.int .i64 0, .int .i64 0, .int .i64 0, .int .i64 0, .int .i64 0, .int .i64 0, .int .i64 0, .int .i64 0] 47)) size_shape rfl (by simp [Value.oneCell']) ?_; rw [← HV2.out]) | (refine wpList_load_row rfl 47 _ rfl w2.heap.size rfl 47 #[.int .i64 k2', .int .i64 n2', .int .i64 g2', .int .i64 z2', .int .i64 s2', .int .i64 t2', .int .i64 b2', .int .i64 l2'] (0, 0) _ HN2.out Try.underlying47 rfl size_shape ?_) | (refine wpList_store_row rfl 47 _ _ rfl w.heap.size #[.int .i64 k2', .int .i64 n2', .int .i64 g2', .int .i64 z2', .int .i64 s2', .int .i64 t2', .int .i64 b2', .int .i64 l2'] rfl rfl 47 _ HS2.out size_shape rfl (by simp [Value.oneCell']) ?_) | (refine wpList_store_row rfl 47 _ _ rfl w.heap.size #[.int .i64 0, .int .i64 0, .int .i64 0, .int .i64 0, .int .i64 0, .int .i64 0, .int .i64 0, .int .i64 0] rfl rfl 47 _ HS2.out size_shape rfl (by simp [Value.oneCell']) ?_))
      refine bodyPost_ret (v := .tuple #[.agg #[.int .i64 0, .int .i64 0, .int .i64 0, .int .i64 0, .int .i64 0, .int .i64 0, .int .i64 0, .int .i64 0], .int .i64 92]) (results_ct rfl _ _ w.heap.size 47 #[.int .i64 0, .int .i64 0, .int .i64 0, .int .i64 0, .int .i64 0, .int .i64 0, .int .i64 0, .int .i64 0] (0, 0) _ _ rfl rfl (setRow_heap _ _ _ _ _ _ HS2.out) Try.underlying47 rfl size_shape) rfl ⟨rfl, ?_⟩
      exact grownBy_old HT2.out (grownBy_setRow _ _ _) (by omega)
    · have e4 : ¬ ((E2 : Nat) : Int) = 0 := by omega
      clear a2 e3
      go_wp2_with (first | (refine wpList_store_row rfl 47 _ _ rfl w2.heap.size #[.int .i64 k2', .int .i64 n2', .int .i64 g2', .int .i64 z2', .int .i64 s2', .int .i64 t2', .int .i64 b2', .int .i64 l2'] rfl rfl 47 _ (heap_alloc_new w2 (.cells #[.int .i64 0, .int .i64 0, .int .i64 0, .int .i64 0, .int .i64 0, .int .i64 0, .int .i64 0, .int .i64 0] 47)) size_shape rfl (by simp [Value.oneCell']) ?_; rw [← HV2.out]) | (refine wpList_load_row rfl 47 _ rfl w2.heap.size rfl 47 #[.int .i64 k2', .int .i64 n2', .int .i64 g2', .int .i64 z2', .int .i64 s2', .int .i64 t2', .int .i64 b2', .int .i64 l2'] (0, 0) _ HN2.out Try.underlying47 rfl size_shape ?_) | (refine wpList_store_row rfl 47 _ _ rfl w.heap.size #[.int .i64 k2', .int .i64 n2', .int .i64 g2', .int .i64 z2', .int .i64 s2', .int .i64 t2', .int .i64 b2', .int .i64 l2'] rfl rfl 47 _ HS2.out size_shape rfl (by simp [Value.oneCell']) ?_) | (refine wpList_store_row rfl 47 _ _ rfl w.heap.size #[.int .i64 0, .int .i64 0, .int .i64 0, .int .i64 0, .int .i64 0, .int .i64 0, .int .i64 0, .int .i64 0] rfl rfl 47 _ HS2.out size_shape rfl (by simp [Value.oneCell']) ?_))
      rw [rounds_succ]
      go_wp2_with (first | (refine wpList_store_row rfl 47 _ _ rfl w2.heap.size #[.int .i64 k2', .int .i64 n2', .int .i64 g2', .int .i64 z2', .int .i64 s2', .int .i64 t2', .int .i64 b2', .int .i64 l2'] rfl rfl 47 _ (heap_alloc_new w2 (.cells #[.int .i64 0, .int .i64 0, .int .i64 0, .int .i64 0, .int .i64 0, .int .i64 0, .int .i64 0, .int .i64 0] 47)) size_shape rfl (by simp [Value.oneCell']) ?_; rw [← HV2.out]) | (refine wpList_load_row rfl 47 _ rfl w2.heap.size rfl 47 #[.int .i64 k2', .int .i64 n2', .int .i64 g2', .int .i64 z2', .int .i64 s2', .int .i64 t2', .int .i64 b2', .int .i64 l2'] (0, 0) _ HN2.out Try.underlying47 rfl size_shape ?_) | (refine wpList_store_row rfl 47 _ _ rfl w.heap.size #[.int .i64 k2', .int .i64 n2', .int .i64 g2', .int .i64 z2', .int .i64 s2', .int .i64 t2', .int .i64 b2', .int .i64 l2'] rfl rfl 47 _ HS2.out size_shape rfl (by simp [Value.oneCell']) ?_) | (refine wpList_store_row rfl 47 _ _ rfl w.heap.size #[.int .i64 0, .int .i64 0, .int .i64 0, .int .i64 0, .int .i64 0, .int .i64 0, .int .i64 0, .int .i64 0] rfl rfl 47 _ HS2.out size_shape rfl (by simp [Value.oneCell']) ?_))
      refine bodyPost_ret (v := .tuple #[.agg #[.int .i64 0, .int .i64 0, .int .i64 0, .int .i64 0, .int .i64 0, .int .i64 0, .int .i64 0, .int .i64 0], .int .i64 92]) (results_ct rfl _ _ w.heap.size 47 #[.int .i64 0, .int .i64 0, .int .i64 0, .int .i64 0, .int .i64 0, .int .i64 0, .int .i64 0, .int .i64 0] (0, 0) _ _ rfl rfl (setRow_heap _ _ _ _ _ _ HS2.out) Try.underlying47 rfl size_shape) rfl ⟨rfl, ?_⟩
      exact grownBy_old HT2.out (grownBy_setRow _ _ _) (by omega)
  · have e2 : ¬ ((E1 : Nat) : Int) = 0 := by omega
    clear a1 e1
    go_wp2_with (first | (refine wpList_store_row rfl 47 _ _ rfl w1.heap.size #[.int .i64 k1', .int .i64 n1', .int .i64 g1', .int .i64 z1', .int .i64 s1', .int .i64 t1', .int .i64 b1', .int .i64 l1'] rfl rfl 47 _ (heap_alloc_new w1 (.cells #[.int .i64 0, .int .i64 0, .int .i64 0, .int .i64 0, .int .i64 0, .int .i64 0, .int .i64 0, .int .i64 0] 47)) size_shape rfl (by simp [Value.oneCell']) ?_; rw [← HV1.out]) | (refine wpList_load_row rfl 47 _ rfl w1.heap.size rfl 47 #[.int .i64 k1', .int .i64 n1', .int .i64 g1', .int .i64 z1', .int .i64 s1', .int .i64 t1', .int .i64 b1', .int .i64 l1'] (0, 0) _ HN1.out Try.underlying47 rfl size_shape ?_) | (refine wpList_store_row rfl 47 _ _ rfl w.heap.size #[.int .i64 k1', .int .i64 n1', .int .i64 g1', .int .i64 z1', .int .i64 s1', .int .i64 t1', .int .i64 b1', .int .i64 l1'] rfl rfl 47 _ HS1.out size_shape rfl (by simp [Value.oneCell']) ?_) | (refine wpList_store_row rfl 47 _ _ rfl w.heap.size #[.int .i64 0, .int .i64 0, .int .i64 0, .int .i64 0, .int .i64 0, .int .i64 0, .int .i64 0, .int .i64 0] rfl rfl 47 _ HS1.out size_shape rfl (by simp [Value.oneCell']) ?_))
    rw [rounds_succ]
    go_wp2_with fail
    refine (H2.out _).mono ?_
    rintro e w2 ⟨rfl, g2⟩
    have HR2 := Lib.hid (heap_grown HS1.out g2)
    have HG2 := Lib.hid (grownBy_trans HT1.out g2)
    have hl2 : w.heap.size < w2.heap.size := (Array.getElem?_eq_some_iff.1 HR2.out).1
    clear g2
    obtain ⟨V2, hV2⟩ : ∃ W, W = (w2.alloc (.cells #[.int .i64 0, .int .i64 0, .int .i64 0, .int .i64 0, .int .i64 0, .int .i64 0, .int .i64 0, .int .i64 0] 47)).setRow w2.heap.size #[.int .i64 k2', .int .i64 n2', .int .i64 g2', .int .i64 z2', .int .i64 s2', .int .i64 t2', .int .i64 b2', .int .i64 l2'] := ⟨_, rfl⟩
    have hn2 : V2.heap[w2.heap.size]? = some (.cells #[.int .i64 k2', .int .i64 n2', .int .i64 g2', .int .i64 z2', .int .i64 s2', .int .i64 t2', .int .i64 b2', .int .i64 l2'] 47 (0, 0)) := by rw [hV2]; exact setRow_heap _ _ _ _ _ _ (heap_alloc_new _ _)
    have hr2 : V2.heap[w.heap.size]? = some (.cells #[.int .i64 0, .int .i64 0, .int .i64 0, .int .i64 0, .int .i64 0, .int .i64 0, .int .i64 0, .int .i64 0] 47 (0, 0)) := by rw [hV2]; exact (setRow_other _ w2.heap.size w.heap.size _ (by omega)).trans (heap_grown HR2.out (World.grownBy_alloc _ _ none))
    have hg2 : w.grownBy V2 none := by rw [hV2]; exact grownBy_old (grownBy_trans HG2.out (World.grownBy_alloc _ _ none)) (grownBy_setRow _ w2.heap.size #[.int .i64 k2', .int .i64 n2', .int .i64 g2', .int .i64 z2', .int .i64 s2', .int .i64 t2', .int .i64 b2', .int .i64 l2']) (by omega)
    have c2_2 : V2.cell? ⟨w2.heap.size, 2, none⟩ = some (.int .i64 g2') := by simp only [World.cell?, hn2]; rfl
    have HN2 := Lib.hid hn2
    have HS2 := Lib.hid hr2
    have HT2 := Lib.hid hg2
    have HV2 := Lib.hid hV2
    clear hn2 hr2 hg2 hV2
    by_cases e3 : E2 = 0
    · have e4 : ¬ g2' = seg := fun h => a2 ⟨e3, h⟩
      subst e3
      clear a2
      go_wp2_with (first | (refine wpList_store_row rfl 47 _ _ rfl w2.heap.size #[.int .i64 k2', .int .i64 n2', .int .i64 g2', .int .i64 z2', .int .i64 s2', .int .i64 t2', .int .i64 b2', .int .i64 l2'] rfl rfl 47 _ (heap_alloc_new w2 (.cells #[.int .i64 0, .int .i64 0, .int .i64 0, .int .i64 0, .int .i64 0, .int .i64 0, .int .i64 0, .int .i64 0] 47)) size_shape rfl (by simp [Value.oneCell']) ?_; rw [← HV2.out]) | (refine wpList_load_row rfl 47 _ rfl w2.heap.size rfl 47 #[.int .i64 k2', .int .i64 n2', .int .i64 g2', .int .i64 z2', .int .i64 s2', .int .i64 t2', .int .i64 b2', .int .i64 l2'] (0, 0) _ HN2.out Try.underlying47 rfl size_shape ?_) | (refine wpList_store_row rfl 47 _ _ rfl w.heap.size #[.int .i64 k2', .int .i64 n2', .int .i64 g2', .int .i64 z2', .int .i64 s2', .int .i64 t2', .int .i64 b2', .int .i64 l2'] rfl rfl 47 _ HS2.out size_shape rfl (by simp [Value.oneCell']) ?_) | (refine wpList_store_row rfl 47 _ _ rfl w.heap.size #[.int .i64 0, .int .i64 0, .int .i64 0, .int .i64 0, .int .i64 0, .int .i64 0, .int .i64 0, .int .i64 0] rfl rfl 47 _ HS2.out size_shape rfl (by simp [Value.oneCell']) ?_))
      rw [rounds_succ]
      go_wp2_with (first | (refine wpList_store_row rfl 47 _ _ rfl w2.heap.size #[.int .i64 k2', .int .i64 n2', .int .i64 g2', .int .i64 z2', .int .i64 s2', .int .i64 t2', .int .i64 b2', .int .i64 l2'] rfl rfl 47 _ (heap_alloc_new w2 (.cells #[.int .i64 0, .int .i64 0, .int .i64 0, .int .i64 0, .int .i64 0, .int .i64 0, .int .i64 0, .int .i64 0] 47)) size_shape rfl (by simp [Value.oneCell']) ?_; rw [← HV2.out]) | (refine wpList_load_row rfl 47 _ rfl w2.heap.size rfl 47 #[.int .i64 k2', .int .i64 n2', .int .i64 g2', .int .i64 z2', .int .i64 s2', .int .i64 t2', .int .i64 b2', .int .i64 l2'] (0, 0) _ HN2.out Try.underlying47 rfl size_shape ?_) | (refine wpList_store_row rfl 47 _ _ rfl w.heap.size #[.int .i64 k2', .int .i64 n2', .int .i64 g2', .int .i64 z2', .int .i64 s2', .int .i64 t2', .int .i64 b2', .int .i64 l2'] rfl rfl 47 _ HS2.out size_shape rfl (by simp [Value.oneCell']) ?_) | (refine wpList_store_row rfl 47 _ _ rfl w.heap.size #[.int .i64 0, .int .i64 0, .int .i64 0, .int .i64 0, .int .i64 0, .int .i64 0, .int .i64 0, .int .i64 0] rfl rfl 47 _ HS2.out size_shape rfl (by simp [Value.oneCell']) ?_))
      refine bodyPost_ret (v := .tuple #[.agg #[.int .i64 0, .int .i64 0, .int .i64 0, .int .i64 0, .int .i64 0, .int .i64 0, .int .i64 0, .int .i64 0], .int .i64 92]) (results_ct rfl _ _ w.heap.size 47 #[.int .i64 0, .int .i64 0, .int .i64 0, .int .i64 0, .int .i64 0, .int .i64 0, .int .i64 0, .int .i64 0] (0, 0) _ _ rfl rfl (setRow_heap _ _ _ _ _ _ HS2.out) Try.underlying47 rfl size_shape) rfl ⟨rfl, ?_⟩
      exact grownBy_old HT2.out (grownBy_setRow _ _ _) (by omega)
    · have e4 : ¬ ((E2 : Nat) : Int) = 0 := by omega
      clear a2 e3
      go_wp2_with (first | (refine wpList_store_row rfl 47 _ _ rfl w2.heap.size #[.int .i64 k2', .int .i64 n2', .int .i64 g2', .int .i64 z2', .int .i64 s2', .int .i64 t2', .int .i64 b2', .int .i64 l2'] rfl rfl 47 _ (heap_alloc_new w2 (.cells #[.int .i64 0, .int .i64 0, .int .i64 0, .int .i64 0, .int .i64 0, .int .i64 0, .int .i64 0, .int .i64 0] 47)) size_shape rfl (by simp [Value.oneCell']) ?_; rw [← HV2.out]) | (refine wpList_load_row rfl 47 _ rfl w2.heap.size rfl 47 #[.int .i64 k2', .int .i64 n2', .int .i64 g2', .int .i64 z2', .int .i64 s2', .int .i64 t2', .int .i64 b2', .int .i64 l2'] (0, 0) _ HN2.out Try.underlying47 rfl size_shape ?_) | (refine wpList_store_row rfl 47 _ _ rfl w.heap.size #[.int .i64 k2', .int .i64 n2', .int .i64 g2', .int .i64 z2', .int .i64 s2', .int .i64 t2', .int .i64 b2', .int .i64 l2'] rfl rfl 47 _ HS2.out size_shape rfl (by simp [Value.oneCell']) ?_) | (refine wpList_store_row rfl 47 _ _ rfl w.heap.size #[.int .i64 0, .int .i64 0, .int .i64 0, .int .i64 0, .int .i64 0, .int .i64 0, .int .i64 0, .int .i64 0] rfl rfl 47 _ HS2.out size_shape rfl (by simp [Value.oneCell']) ?_))
      rw [rounds_succ]
      go_wp2_with (first | (refine wpList_store_row rfl 47 _ _ rfl w2.heap.size #[.int .i64 k2', .int .i64 n2', .int .i64 g2', .int .i64 z2', .int .i64 s2', .int .i64 t2', .int .i64 b2', .int .i64 l2'] rfl rfl 47 _ (heap_alloc_new w2 (.cells #[.int .i64 0, .int .i64 0, .int .i64 0, .int .i64 0, .int .i64 0, .int .i64 0, .int .i64 0, .int .i64 0] 47)) size_shape rfl (by simp [Value.oneCell']) ?_; rw [← HV2.out]) | (refine wpList_load_row rfl 47 _ rfl w2.heap.size rfl 47 #[.int .i64 k2', .int .i64 n2', .int .i64 g2', .int .i64 z2', .int .i64 s2', .int .i64 t2', .int .i64 b2', .int .i64 l2'] (0, 0) _ HN2.out Try.underlying47 rfl size_shape ?_) | (refine wpList_store_row rfl 47 _ _ rfl w.heap.size #[.int .i64 k2', .int .i64 n2', .int .i64 g2', .int .i64 z2', .int .i64 s2', .int .i64 t2', .int .i64 b2', .int .i64 l2'] rfl rfl 47 _ HS2.out size_shape rfl (by simp [Value.oneCell']) ?_) | (refine wpList_store_row rfl 47 _ _ rfl w.heap.size #[.int .i64 0, .int .i64 0, .int .i64 0, .int .i64 0, .int .i64 0, .int .i64 0, .int .i64 0, .int .i64 0] rfl rfl 47 _ HS2.out size_shape rfl (by simp [Value.oneCell']) ?_))
      refine bodyPost_ret (v := .tuple #[.agg #[.int .i64 0, .int .i64 0, .int .i64 0, .int .i64 0, .int .i64 0, .int .i64 0, .int .i64 0, .int .i64 0], .int .i64 92]) (results_ct rfl _ _ w.heap.size 47 #[.int .i64 0, .int .i64 0, .int .i64 0, .int .i64 0, .int .i64 0, .int .i64 0, .int .i64 0, .int .i64 0] (0, 0) _ _ rfl rfl (setRow_heap _ _ _ _ _ _ HS2.out) Try.underlying47 rfl size_shape) rfl ⟨rfl, ?_⟩
      exact grownBy_old HT2.out (grownBy_setRow _ _ _) (by omega)


end Go.Proofs.Ytfboddnpkaiifaa
/- the document's Again, Fits. -/
namespace Go.Proofs.Ytfboddnpkaiifaa
open Go.RowKit

theorem refAgain_n (k n seg z : Int) (w : World) :
    Calls Try.prog 35 #[.int .i64 k, .int .i64 n, .int .i64 seg, .int .i64 z] w fun e w' => e = .returned (.tuple #[(agS k n seg z).val, .int .i64 (agE k n seg z : Nat)]) ∧ w.grownBy w' none := by
  have h1 := fun w => refShape_t k n seg 0 z none 0 0 w
  have h2 := fun w => refShape_t k n 65536 0 z none 0 0 w
  unfold prV at h1 h2
  by_cases a1 : shE k n seg 0 z = 0 ∧ (shS k n seg 0 z).seg = seg
  · obtain ⟨e1, e2⟩ := ag_first a1.1 a1.2
    rw [e1, e2]
    exact refAgain_a k n seg z _ _ _ _ w h1 h2 a1.1 a1.2
  · by_cases a2 : shE k n 65536 0 z = 0 ∧ (shS k n 65536 0 z).seg = seg
    · obtain ⟨e1, e2⟩ := ag_second a2.1 a2.2
      rw [e1, e2]
      exact refAgain_b k n seg z _ _ _ _ w h1 h2 a1 a2.1 a2.2
    · have h0 : agE k n seg z ≠ 0 := fun h => (ag_some h).elim a1 a2
      have hS : agS k n seg z = noSh := by unfold agS; rw [if_neg h0]
      rw [hS, agE_not h0]
      exact refAgain_c k n seg z _ _ _ _ w h1 h2 a1 a2

set_option maxRecDepth 100000 in
set_option maxHeartbeats 4000000 in
theorem refFits_n (s : Sh) (hs : s.Wf) (w : World) : Calls Try.prog 37 #[s.val] w fun e w' => e = .returned (.bool (decide (fits s))) ∧ w.grownBy w' none := by
  have ha := fun w => refAgain_n s.k s.n s.seg s.size w
  have hq := fun w => (eq_sh hs (ag_wf s.k s.n s.seg s.size) w).1
  have hres := fits_dec s
  rw [hres]
  generalize agS s.k s.n s.seg s.size = T at ha hq hres ⊢
  generalize agE s.k s.n s.seg s.size = E at ha hq hres ⊢
  generalize hc : decide (s = T) = c at hq hres ⊢
  clear hc hres
  obtain ⟨k, n, g, z, sg, t, b, l⟩ := s
  obtain ⟨k', n', g', z', sg', t', b', l'⟩ := T
  have HA := Lib.hid ha
  have hq' : ∀ w, (binOp .eql 47 (.agg #[.int .i64 k, .int .i64 n, .int .i64 g, .int .i64 z, .int .i64 sg, .int .i64 t, .int .i64 b, .int .i64 l]) (.agg #[.int .i64 k', .int .i64 n', .int .i64 g', .int .i64 z', .int .i64 sg', .int .i64 t', .int .i64 b', .int .i64 l'])).run Try.prog w = .ok (.bool c) w := hq
  have hgu := eq_guard_sh
  clear ha hq hs
  show Calls Try.prog 37 #[.agg #[.int .i64 k, .int .i64 n, .int .i64 g, .int .i64 z, .int .i64 sg, .int .i64 t, .int .i64 b, .int .i64 l]] w _
  go_enter Try.func37, Try.ntmps37
  go_wp2_with fail
  refine (HA.out _).mono ?_
  rintro e w1 ⟨rfl, hg⟩
  have hp := heap_grown (heap_alloc_new w (.cells #[.int .i64 k, .int .i64 n, .int .i64 g, .int .i64 z, .int .i64 sg, .int .i64 t, .int .i64 b, .int .i64 l] 47)) hg
  have hg0 := grownBy_trans (World.grownBy_alloc w (.cells #[.int .i64 k, .int .i64 n, .int .i64 g, .int .i64 z, .int .i64 sg, .int .i64 t, .int .i64 b, .int .i64 l] 47) none) hg
  have hl1 : w.heap.size < w1.heap.size := (Array.getElem?_eq_some_iff.1 hp).1
  have HG0 := Lib.hid hg0
  have HP := Lib.hid hp
  clear hg hg0 hp
  have HN := Lib.hid (heap_alloc_new w1 (.cells #[.int .i64 0, .int .i64 0, .int .i64 0, .int .i64 0, .int .i64 0, .int .i64 0, .int .i64 0, .int .i64 0] 47))
  have HP2 := Lib.hid (heap_grown HP.out (World.grownBy_alloc w1 (.cells #[.int .i64 0, .int .i64 0, .int .i64 0, .int .i64 0, .int .i64 0, .int .i64 0, .int .i64 0, .int .i64 0] 47) none))
  have HG2 := Lib.hid (grownBy_trans HG0.out (World.grownBy_alloc w1 (.cells #[.int .i64 0, .int .i64 0, .int .i64 0, .int .i64 0, .int .i64 0, .int .i64 0, .int .i64 0, .int .i64 0] 47) none))
  obtain ⟨W, hW⟩ : ∃ W, W = (w1.alloc (.cells #[.int .i64 0, .int .i64 0, .int .i64 0, .int .i64 0, .int .i64 0, .int .i64 0, .int .i64 0, .int .i64 0] 47)).setRow w1.heap.size #[.int .i64 k', .int .i64 n', .int .i64 g', .int .i64 z', .int .i64 sg', .int .i64 t', .int .i64 b', .int .i64 l'] := ⟨_, rfl⟩
  have hg1 := grownBy_old HG2.out (grownBy_setRow _ w1.heap.size #[.int .i64 k', .int .i64 n', .int .i64 g', .int .i64 z', .int .i64 sg', .int .i64 t', .int .i64 b', .int .i64 l']) (by omega)
  have hn1 : ((w1.alloc (.cells #[.int .i64 0, .int .i64 0, .int .i64 0, .int .i64 0, .int .i64 0, .int .i64 0, .int .i64 0, .int .i64 0] 47)).setRow w1.heap.size #[.int .i64 k', .int .i64 n', .int .i64 g', .int .i64 z', .int .i64 sg', .int .i64 t', .int .i64 b', .int .i64 l']).heap[w1.heap.size]? = some (.cells #[.int .i64 k', .int .i64 n', .int .i64 g', .int .i64 z', .int .i64 sg', .int .i64 t', .int .i64 b', .int .i64 l'] 47 (0, 0)) := setRow_heap _ _ _ _ _ _ HN.out
  have hr1 : ((w1.alloc (.cells #[.int .i64 0, .int .i64 0, .int .i64 0, .int .i64 0, .int .i64 0, .int .i64 0, .int .i64 0, .int .i64 0] 47)).setRow w1.heap.size #[.int .i64 k', .int .i64 n', .int .i64 g', .int .i64 z', .int .i64 sg', .int .i64 t', .int .i64 b', .int .i64 l']).heap[w.heap.size]? = some (.cells #[.int .i64 k, .int .i64 n, .int .i64 g, .int .i64 z, .int .i64 sg, .int .i64 t, .int .i64 b, .int .i64 l] 47 (0, 0)) := (setRow_other _ w1.heap.size w.heap.size _ (by omega)).trans HP2.out
  rw [← hW] at hg1 hn1 hr1
  have HGG := Lib.hid hg1
  have HN1 := Lib.hid hn1
  have HRR := Lib.hid hr1
  have HW := Lib.hid hW
  clear hg1 hn1 hr1 hW
  by_cases hE : E = 0
  · subst hE
    have hE' : ((0 : Nat) : Int) = 0 := rfl
    go_wp2_with (first | (refine wpList_store_row rfl 47 _ _ rfl w1.heap.size #[.int .i64 k', .int .i64 n', .int .i64 g', .int .i64 z', .int .i64 sg', .int .i64 t', .int .i64 b', .int .i64 l'] rfl rfl 47 _ HN.out size_shape rfl (by simp [Value.oneCell']) ?_; rw [← HW.out]) | (refine wpList_load_rowW (by rfl) 47 _ rfl w1.heap.size rfl 47 #[.int .i64 k', .int .i64 n', .int .i64 g', .int .i64 z', .int .i64 sg', .int .i64 t', .int .i64 b', .int .i64 l'] (0, 0) _ HN1.out Try.underlying47 rfl size_shape ?_) | (refine wpList_load_rowW (by rfl) 47 _ rfl w.heap.size rfl 47 #[.int .i64 k, .int .i64 n, .int .i64 g, .int .i64 z, .int .i64 sg, .int .i64 t, .int .i64 b, .int .i64 l] (0, 0) _ HRR.out Try.underlying47 rfl size_shape ?_))
    go_ret
    exact ⟨by simp, HGG.out⟩
  · have hE' : ¬ (E : Int) = 0 := by omega
    go_wp2_with (first | (refine wpList_store_row rfl 47 _ _ rfl w1.heap.size #[.int .i64 k', .int .i64 n', .int .i64 g', .int .i64 z', .int .i64 sg', .int .i64 t', .int .i64 b', .int .i64 l'] rfl rfl 47 _ HN.out size_shape rfl (by simp [Value.oneCell']) ?_; rw [← HW.out]))
    go_ret
    exact ⟨by simp [hE], HGG.out⟩

end Go.Proofs.Ytfboddnpkaiifaa
/- cut: size, SegSize, BlockSize, Cover. -/
namespace Go.Proofs.Ytfboddnpkaiifaa
open Go.RowKit

theorem sz_no {s : Sh} {j u l : Int} (h : ¬ fits s) : szE s j = 92 ∧ szV s j u l = 0 := by
  have h0 : szE s j = 92 := by unfold szE; rw [if_neg h]
  exact ⟨h0, by unfold szV; rw [h0]; rfl⟩
theorem sz_out {s : Sh} {j u l : Int} (h : fits s) (hj : ¬ (0 ≤ j ∧ j < s.segs)) : szE s j = 90 ∧ szV s j u l = 0 := by
  have h0 : szE s j = 90 := by unfold szE; rw [if_pos h, if_neg hj]
  exact ⟨h0, by unfold szV; rw [h0]; rfl⟩
theorem sz_in {s : Sh} {j u l : Int} (h : fits s) (hj : 0 ≤ j ∧ j < s.segs) : szE s j = 0 ∧ szV s j u l = if j = s.segs - 1 then l else u := by
  have h0 : szE s j = 0 := by unfold szE; rw [if_pos h, if_pos hj]
  exact ⟨h0, by unfold szV; rw [if_pos h0]⟩

set_option maxRecDepth 100000 in
set_option maxHeartbeats 4000000 in
theorem size_n (s : Sh) (hs : s.Wf) (j us la : Int) (w : World) : Calls Try.prog 57 #[s.val, .int .i64 j, .int .i64 us, .int .i64 la] w fun e w' => e = .returned (.tuple #[.int .i64 (szV s j us la), .int .i64 (szE s j : Nat)]) ∧ w.grownBy w' none := by
  have hf := fits_n s hs
  have hsw := hs.segs
  by_cases hfit : fits s
  · simp only [hfit, decide_true] at hf
    have HF := Lib.hid hf
    clear hf
    by_cases h1 : j < 0
    · have hr := sz_out (j := j) (u := us) (l := la) hfit (fun h => by omega)
      rw [hr.1, hr.2]
      clear hr hfit hs
      obtain ⟨k, n, g, z, sg, t, b, l⟩ := s
      unfold Sh.val at HF ⊢
      go_enter Try.func57, Try.ntmps57
      have HP0 := Lib.hid (heap_alloc_new w (.cells #[.int .i64 k, .int .i64 n, .int .i64 g, .int .i64 z, .int .i64 sg, .int .i64 t, .int .i64 b, .int .i64 l] 47))
      go_wp2_with (first | (refine wpList_load_row rfl 47 _ rfl w.heap.size rfl 47 #[.int .i64 k, .int .i64 n, .int .i64 g, .int .i64 z, .int .i64 sg, .int .i64 t, .int .i64 b, .int .i64 l] (0, 0) _ HP0.out Try.underlying47 rfl size_shape ?_))
      refine (HF.out _).mono ?_
      rintro e w1 ⟨rfl, hg⟩
      have hp := heap_grown HP0.out hg
      have hg0 := grownBy_trans (World.grownBy_alloc w (.cells #[.int .i64 k, .int .i64 n, .int .i64 g, .int .i64 z, .int .i64 sg, .int .i64 t, .int .i64 b, .int .i64 l] 47) none) hg
      have c2 : w1.cell? ⟨w.heap.size, 2, none⟩ = some (.int .i64 g) := by simp only [World.cell?, hp]; rfl
      have c3 : w1.cell? ⟨w.heap.size, 3, none⟩ = some (.int .i64 z) := by simp only [World.cell?, hp]; rfl
      have c4 : w1.cell? ⟨w.heap.size, 4, none⟩ = some (.int .i64 sg) := by simp only [World.cell?, hp]; rfl
      have HG0 := Lib.hid hg0
      clear hg hg0 hp HP0
      go_wp2_with fail
      refine bodyPost_ret (by simp [*, results, Try.results57, go_sem]; try rfl) rfl ?_
      exact ⟨rfl, HG0.out⟩
    · by_cases h2 : s.segs ≤ j
      · have hr := sz_out (j := j) (u := us) (l := la) hfit (fun h => by omega)
        rw [hr.1, hr.2]
        clear hr hfit hs
        obtain ⟨k, n, g, z, sg, t, b, l⟩ := s
        simp only at h2
        unfold Sh.val at HF ⊢
        go_enter Try.func57, Try.ntmps57
        have HP0 := Lib.hid (heap_alloc_new w (.cells #[.int .i64 k, .int .i64 n, .int .i64 g, .int .i64 z, .int .i64 sg, .int .i64 t, .int .i64 b, .int .i64 l] 47))
        go_wp2_with (first | (refine wpList_load_row rfl 47 _ rfl w.heap.size rfl 47 #[.int .i64 k, .int .i64 n, .int .i64 g, .int .i64 z, .int .i64 sg, .int .i64 t, .int .i64 b, .int .i64 l] (0, 0) _ HP0.out Try.underlying47 rfl size_shape ?_))
        refine (HF.out _).mono ?_
        rintro e w1 ⟨rfl, hg⟩
        have hp := heap_grown HP0.out hg
        have hg0 := grownBy_trans (World.grownBy_alloc w (.cells #[.int .i64 k, .int .i64 n, .int .i64 g, .int .i64 z, .int .i64 sg, .int .i64 t, .int .i64 b, .int .i64 l] 47) none) hg
        have c2 : w1.cell? ⟨w.heap.size, 2, none⟩ = some (.int .i64 g) := by simp only [World.cell?, hp]; rfl
        have c3 : w1.cell? ⟨w.heap.size, 3, none⟩ = some (.int .i64 z) := by simp only [World.cell?, hp]; rfl
        have c4 : w1.cell? ⟨w.heap.size, 4, none⟩ = some (.int .i64 sg) := by simp only [World.cell?, hp]; rfl
        have HG0 := Lib.hid hg0
        clear hg hg0 hp HP0
        go_wp2_with fail
        refine bodyPost_ret (by simp [*, results, Try.results57, go_sem]; try rfl) rfl ?_
        exact ⟨rfl, HG0.out⟩
      · have hr := sz_in (j := j) (u := us) (l := la) hfit (by omega)
        have hw : IntKind.i64.wrap (s.segs - 1) = s.segs - 1 := IntWalk.i64_in _ (by unfold i64ok at hsw; omega)
        rw [hr.1, hr.2]
        clear hr hfit hs
        obtain ⟨k, n, g, z, sg, t, b, l⟩ := s
        simp only at h2 hw
        unfold Sh.val at HF ⊢
        by_cases h3 : j = sg - 1
        · rw [if_pos h3]
          subst h3
          go_enter Try.func57, Try.ntmps57
          have HP0 := Lib.hid (heap_alloc_new w (.cells #[.int .i64 k, .int .i64 n, .int .i64 g, .int .i64 z, .int .i64 sg, .int .i64 t, .int .i64 b, .int .i64 l] 47))
          go_wp2_with (first | (refine wpList_load_row rfl 47 _ rfl w.heap.size rfl 47 #[.int .i64 k, .int .i64 n, .int .i64 g, .int .i64 z, .int .i64 sg, .int .i64 t, .int .i64 b, .int .i64 l] (0, 0) _ HP0.out Try.underlying47 rfl size_shape ?_))
          refine (HF.out _).mono ?_
          rintro e w1 ⟨rfl, hg⟩
          have hp := heap_grown HP0.out hg
          have hg0 := grownBy_trans (World.grownBy_alloc w (.cells #[.int .i64 k, .int .i64 n, .int .i64 g, .int .i64 z, .int .i64 sg, .int .i64 t, .int .i64 b, .int .i64 l] 47) none) hg
          have c2 : w1.cell? ⟨w.heap.size, 2, none⟩ = some (.int .i64 g) := by simp only [World.cell?, hp]; rfl
          have c3 : w1.cell? ⟨w.heap.size, 3, none⟩ = some (.int .i64 z) := by simp only [World.cell?, hp]; rfl
          have c4 : w1.cell? ⟨w.heap.size, 4, none⟩ = some (.int .i64 sg) := by simp only [World.cell?, hp]; rfl
          have HG0 := Lib.hid hg0
          clear hg hg0 hp HP0
          go_wp2_with fail
          refine bodyPost_ret (by simp [*, results, Try.results57, go_sem]; try rfl) rfl ?_
          exact ⟨rfl, HG0.out⟩
        · rw [if_neg h3]
          go_enter Try.func57, Try.ntmps57
          have HP0 := Lib.hid (heap_alloc_new w (.cells #[.int .i64 k, .int .i64 n, .int .i64 g, .int .i64 z, .int .i64 sg, .int .i64 t, .int .i64 b, .int .i64 l] 47))
          go_wp2_with (first | (refine wpList_load_row rfl 47 _ rfl w.heap.size rfl 47 #[.int .i64 k, .int .i64 n, .int .i64 g, .int .i64 z, .int .i64 sg, .int .i64 t, .int .i64 b, .int .i64 l] (0, 0) _ HP0.out Try.underlying47 rfl size_shape ?_))
          refine (HF.out _).mono ?_
          rintro e w1 ⟨rfl, hg⟩
          have hp := heap_grown HP0.out hg
          have hg0 := grownBy_trans (World.grownBy_alloc w (.cells #[.int .i64 k, .int .i64 n, .int .i64 g, .int .i64 z, .int .i64 sg, .int .i64 t, .int .i64 b, .int .i64 l] 47) none) hg
          have c2 : w1.cell? ⟨w.heap.size, 2, none⟩ = some (.int .i64 g) := by simp only [World.cell?, hp]; rfl
          have c3 : w1.cell? ⟨w.heap.size, 3, none⟩ = some (.int .i64 z) := by simp only [World.cell?, hp]; rfl
          have c4 : w1.cell? ⟨w.heap.size, 4, none⟩ = some (.int .i64 sg) := by simp only [World.cell?, hp]; rfl
          have HG0 := Lib.hid hg0
          clear hg hg0 hp HP0
          go_wp2_with fail
          refine bodyPost_ret (by simp [*, results, Try.results57, go_sem]; try rfl) rfl ?_
          exact ⟨rfl, HG0.out⟩
  · simp only [hfit, decide_false] at hf
    have HF := Lib.hid hf
    clear hf
    have hr := sz_no (j := j) (u := us) (l := la) hfit
    rw [hr.1, hr.2]
    clear hr hfit hs
    obtain ⟨k, n, g, z, sg, t, b, l⟩ := s
    unfold Sh.val at HF ⊢
    go_enter Try.func57, Try.ntmps57
    have HP0 := Lib.hid (heap_alloc_new w (.cells #[.int .i64 k, .int .i64 n, .int .i64 g, .int .i64 z, .int .i64 sg, .int .i64 t, .int .i64 b, .int .i64 l] 47))
    go_wp2_with (first | (refine wpList_load_row rfl 47 _ rfl w.heap.size rfl 47 #[.int .i64 k, .int .i64 n, .int .i64 g, .int .i64 z, .int .i64 sg, .int .i64 t, .int .i64 b, .int .i64 l] (0, 0) _ HP0.out Try.underlying47 rfl size_shape ?_))
    refine (HF.out _).mono ?_
    rintro e w1 ⟨rfl, hg⟩
    have hp := heap_grown HP0.out hg
    have hg0 := grownBy_trans (World.grownBy_alloc w (.cells #[.int .i64 k, .int .i64 n, .int .i64 g, .int .i64 z, .int .i64 sg, .int .i64 t, .int .i64 b, .int .i64 l] 47) none) hg
    have c2 : w1.cell? ⟨w.heap.size, 2, none⟩ = some (.int .i64 g) := by simp only [World.cell?, hp]; rfl
    have c3 : w1.cell? ⟨w.heap.size, 3, none⟩ = some (.int .i64 z) := by simp only [World.cell?, hp]; rfl
    have c4 : w1.cell? ⟨w.heap.size, 4, none⟩ = some (.int .i64 sg) := by simp only [World.cell?, hp]; rfl
    have HG0 := Lib.hid hg0
    clear hg hg0 hp HP0
    go_wp2_with fail
    refine bodyPost_ret (by simp [*, results, Try.results57, go_sem]; try rfl) rfl ?_
    exact ⟨rfl, HG0.out⟩

set_option maxRecDepth 100000 in
set_option maxHeartbeats 4000000 in
theorem segsize_n (s : Sh) (hs : s.Wf) (j : Int) (w : World) : Calls Try.prog 40 #[s.val, .int .i64 j] w fun e w' => e = .returned (.tuple #[.int .i64 (szV s j s.seg s.tail), .int .i64 (szE s j : Nat)]) ∧ w.grownBy w' none := by
  have hf := size_n s hs j s.seg s.tail
  generalize szV s j s.seg s.tail = V at hf ⊢
  generalize szE s j = E at hf ⊢
  clear hs
  obtain ⟨k, n, g, z, sg, t, b, l⟩ := s
  unfold Sh.val at hf ⊢
  have HF := Lib.hid hf
  clear hf
  go_enter Try.func40, Try.ntmps40
  have HP0 := Lib.hid (heap_alloc_new w (.cells #[.int .i64 k, .int .i64 n, .int .i64 g, .int .i64 z, .int .i64 sg, .int .i64 t, .int .i64 b, .int .i64 l] 47))
  go_wp2_with (first | (refine wpList_load_row rfl 47 _ rfl w.heap.size rfl 47 #[.int .i64 k, .int .i64 n, .int .i64 g, .int .i64 z, .int .i64 sg, .int .i64 t, .int .i64 b, .int .i64 l] (0, 0) _ HP0.out Try.underlying47 rfl size_shape ?_))
  refine (HF.out _).mono ?_
  rintro e w1 ⟨rfl, hg⟩
  have HG0 := Lib.hid (grownBy_trans (World.grownBy_alloc w (.cells #[.int .i64 k, .int .i64 n, .int .i64 g, .int .i64 z, .int .i64 sg, .int .i64 t, .int .i64 b, .int .i64 l] 47) none) hg)
  clear hg HP0
  go_wp2_with fail
  refine bodyPost_ret (by simp [*, results, Try.results40, go_sem]; try rfl) rfl ?_
  exact ⟨rfl, HG0.out⟩

set_option maxRecDepth 100000 in
set_option maxHeartbeats 4000000 in
theorem blocksize_n (s : Sh) (hs : s.Wf) (j : Int) (w : World) : Calls Try.prog 41 #[s.val, .int .i64 j] w fun e w' => e = .returned (.tuple #[.int .i64 (szV s j s.block s.last), .int .i64 (szE s j : Nat)]) ∧ w.grownBy w' none := by
  have hf := size_n s hs j s.block s.last
  generalize szV s j s.block s.last = V at hf ⊢
  generalize szE s j = E at hf ⊢
  clear hs
  obtain ⟨k, n, g, z, sg, t, b, l⟩ := s
  unfold Sh.val at hf ⊢
  have HF := Lib.hid hf
  clear hf
  go_enter Try.func41, Try.ntmps41
  have HP0 := Lib.hid (heap_alloc_new w (.cells #[.int .i64 k, .int .i64 n, .int .i64 g, .int .i64 z, .int .i64 sg, .int .i64 t, .int .i64 b, .int .i64 l] 47))
  go_wp2_with (first | (refine wpList_load_row rfl 47 _ rfl w.heap.size rfl 47 #[.int .i64 k, .int .i64 n, .int .i64 g, .int .i64 z, .int .i64 sg, .int .i64 t, .int .i64 b, .int .i64 l] (0, 0) _ HP0.out Try.underlying47 rfl size_shape ?_))
  refine (HF.out _).mono ?_
  rintro e w1 ⟨rfl, hg⟩
  have HG0 := Lib.hid (grownBy_trans (World.grownBy_alloc w (.cells #[.int .i64 k, .int .i64 n, .int .i64 g, .int .i64 z, .int .i64 sg, .int .i64 t, .int .i64 b, .int .i64 l] 47) none) hg)
  clear hg HP0
  go_wp2_with fail
  refine bodyPost_ret (by simp [*, results, Try.results41, go_sem]; try rfl) rfl ?_
  exact ⟨rfl, HG0.out⟩

end Go.Proofs.Ytfboddnpkaiifaa
/- cut: Cover. -/
namespace Go.Proofs.Ytfboddnpkaiifaa
open Go.RowKit

theorem cv_no {s : Sh} {a m : Int} (h : ¬ fits s) : cvE s a m = 92 ∧ cvA s a m = 0 ∧ cvB s a m = 0 := by
  have h0 : cvE s a m = 92 := by unfold cvE; rw [if_neg h]
  exact ⟨h0, by unfold cvA; rw [h0]; rfl, by unfold cvB; rw [h0]; rfl⟩
theorem cv_out {s : Sh} {a m : Int} (h : fits s) (hj : ¬ (0 ≤ a ∧ 1 ≤ m ∧ a ≤ s.size ∧ m ≤ s.size - a)) : cvE s a m = 90 ∧ cvA s a m = 0 ∧ cvB s a m = 0 := by
  have h0 : cvE s a m = 90 := by unfold cvE; rw [if_pos h, if_neg hj]
  exact ⟨h0, by unfold cvA; rw [h0]; rfl, by unfold cvB; rw [h0]; rfl⟩
theorem cv_in {s : Sh} {a m : Int} (h : fits s) (hj : 0 ≤ a ∧ 1 ≤ m ∧ a ≤ s.size ∧ m ≤ s.size - a) : cvE s a m = 0 ∧ cvA s a m = (a.toNat / s.seg.toNat : Nat) ∧ cvB s a m = ((a.toNat + m.toNat - 1) / s.seg.toNat : Nat) := by
  have h0 : cvE s a m = 0 := by unfold cvE; rw [if_pos h, if_pos hj]
  exact ⟨h0, by unfold cvA; rw [if_pos h0], by unfold cvB; rw [if_pos h0]⟩

set_option maxRecDepth 100000 in
set_option maxHeartbeats 4000000 in
theorem cover_n (s : Sh) (hs : s.Wf) (a m : Int) (ha : i64ok a) (hm : i64ok m) (w : World) : Calls Try.prog 39 #[s.val, .int .i64 a, .int .i64 m] w fun e w' => e = .returned (.tuple #[.int .i64 (cvA s a m), .int .i64 (cvB s a m), .int .i64 (cvE s a m : Nat)]) ∧ w.grownBy w' none := by
  have hf := fits_n s hs
  by_cases hfit : fits s
  · simp only [hfit, decide_true] at hf
    have HF := Lib.hid hf
    clear hf
    by_cases h1 : a < 0
    · have hx := hs.size
      have hr := cv_out hfit (a := a) (m := m) (fun h => by omega)
      rw [hr.1, hr.2.1, hr.2.2]
      clear hr hfit hs
      obtain ⟨k, n, g, z, sg, t, b, l⟩ := s
      clear hx
      unfold Sh.val at HF ⊢
      go_enter Try.func39, Try.ntmps39
      have HP0 := Lib.hid (heap_alloc_new w (.cells #[.int .i64 k, .int .i64 n, .int .i64 g, .int .i64 z, .int .i64 sg, .int .i64 t, .int .i64 b, .int .i64 l] 47))
      go_wp2_with (first | (refine wpList_load_row rfl 47 _ rfl w.heap.size rfl 47 #[.int .i64 k, .int .i64 n, .int .i64 g, .int .i64 z, .int .i64 sg, .int .i64 t, .int .i64 b, .int .i64 l] (0, 0) _ HP0.out Try.underlying47 rfl size_shape ?_))
      refine (HF.out _).mono ?_
      rintro e w1 ⟨rfl, hg⟩
      have hp := heap_grown HP0.out hg
      have hg0 := grownBy_trans (World.grownBy_alloc w (.cells #[.int .i64 k, .int .i64 n, .int .i64 g, .int .i64 z, .int .i64 sg, .int .i64 t, .int .i64 b, .int .i64 l] 47) none) hg
      have c2 : w1.cell? ⟨w.heap.size, 2, none⟩ = some (.int .i64 g) := by simp only [World.cell?, hp]; rfl
      have c3 : w1.cell? ⟨w.heap.size, 3, none⟩ = some (.int .i64 z) := by simp only [World.cell?, hp]; rfl
      have HG0 := Lib.hid hg0
      clear hg hg0 hp HP0
      go_wp2_with fail
      refine bodyPost_ret (by simp [*, results, Try.results39, go_sem]; try rfl) rfl ?_
      exact ⟨rfl, HG0.out⟩
    by_cases h2 : m < 1
    · skip
      have hr := cv_out hfit (a := a) (m := m) (fun h => by omega)
      rw [hr.1, hr.2.1, hr.2.2]
      clear hr hfit hs
      obtain ⟨k, n, g, z, sg, t, b, l⟩ := s
      unfold Sh.val at HF ⊢
      go_enter Try.func39, Try.ntmps39
      have HP0 := Lib.hid (heap_alloc_new w (.cells #[.int .i64 k, .int .i64 n, .int .i64 g, .int .i64 z, .int .i64 sg, .int .i64 t, .int .i64 b, .int .i64 l] 47))
      go_wp2_with (first | (refine wpList_load_row rfl 47 _ rfl w.heap.size rfl 47 #[.int .i64 k, .int .i64 n, .int .i64 g, .int .i64 z, .int .i64 sg, .int .i64 t, .int .i64 b, .int .i64 l] (0, 0) _ HP0.out Try.underlying47 rfl size_shape ?_))
      refine (HF.out _).mono ?_
      rintro e w1 ⟨rfl, hg⟩
      have hp := heap_grown HP0.out hg
      have hg0 := grownBy_trans (World.grownBy_alloc w (.cells #[.int .i64 k, .int .i64 n, .int .i64 g, .int .i64 z, .int .i64 sg, .int .i64 t, .int .i64 b, .int .i64 l] 47) none) hg
      have c2 : w1.cell? ⟨w.heap.size, 2, none⟩ = some (.int .i64 g) := by simp only [World.cell?, hp]; rfl
      have c3 : w1.cell? ⟨w.heap.size, 3, none⟩ = some (.int .i64 z) := by simp only [World.cell?, hp]; rfl
      have HG0 := Lib.hid hg0
      clear hg hg0 hp HP0
      go_wp2_with fail
      refine bodyPost_ret (by simp [*, results, Try.results39, go_sem]; try rfl) rfl ?_
      exact ⟨rfl, HG0.out⟩
    by_cases h3 : s.size < a
    · skip
      have hr := cv_out hfit (a := a) (m := m) (fun h => by omega)
      rw [hr.1, hr.2.1, hr.2.2]
      clear hr hfit hs
      obtain ⟨k, n, g, z, sg, t, b, l⟩ := s
      simp only at h3
      unfold Sh.val at HF ⊢
      go_enter Try.func39, Try.ntmps39
      have HP0 := Lib.hid (heap_alloc_new w (.cells #[.int .i64 k, .int .i64 n, .int .i64 g, .int .i64 z, .int .i64 sg, .int .i64 t, .int .i64 b, .int .i64 l] 47))
      go_wp2_with (first | (refine wpList_load_row rfl 47 _ rfl w.heap.size rfl 47 #[.int .i64 k, .int .i64 n, .int .i64 g, .int .i64 z, .int .i64 sg, .int .i64 t, .int .i64 b, .int .i64 l] (0, 0) _ HP0.out Try.underlying47 rfl size_shape ?_))
      refine (HF.out _).mono ?_
      rintro e w1 ⟨rfl, hg⟩
      have hp := heap_grown HP0.out hg
      have hg0 := grownBy_trans (World.grownBy_alloc w (.cells #[.int .i64 k, .int .i64 n, .int .i64 g, .int .i64 z, .int .i64 sg, .int .i64 t, .int .i64 b, .int .i64 l] 47) none) hg
      have c2 : w1.cell? ⟨w.heap.size, 2, none⟩ = some (.int .i64 g) := by simp only [World.cell?, hp]; rfl
      have c3 : w1.cell? ⟨w.heap.size, 3, none⟩ = some (.int .i64 z) := by simp only [World.cell?, hp]; rfl
      have HG0 := Lib.hid hg0
      clear hg hg0 hp HP0
      go_wp2_with fail
      refine bodyPost_ret (by simp [*, results, Try.results39, go_sem]; try rfl) rfl ?_
      exact ⟨rfl, HG0.out⟩
    have hx := hs.size
    have hw : IntKind.i64.wrap (s.size - a) = s.size - a := IntWalk.i64_in _ (by unfold i64ok at hx; omega)
    by_cases h4 : s.size - a < m
    · clear hx
      have hr := cv_out hfit (a := a) (m := m) (fun h => by omega)
      rw [hr.1, hr.2.1, hr.2.2]
      clear hr hfit hs
      obtain ⟨k, n, g, z, sg, t, b, l⟩ := s
      simp only at h3 h4 hw
      unfold Sh.val at HF ⊢
      go_enter Try.func39, Try.ntmps39
      have HP0 := Lib.hid (heap_alloc_new w (.cells #[.int .i64 k, .int .i64 n, .int .i64 g, .int .i64 z, .int .i64 sg, .int .i64 t, .int .i64 b, .int .i64 l] 47))
      go_wp2_with (first | (refine wpList_load_row rfl 47 _ rfl w.heap.size rfl 47 #[.int .i64 k, .int .i64 n, .int .i64 g, .int .i64 z, .int .i64 sg, .int .i64 t, .int .i64 b, .int .i64 l] (0, 0) _ HP0.out Try.underlying47 rfl size_shape ?_))
      refine (HF.out _).mono ?_
      rintro e w1 ⟨rfl, hg⟩
      have hp := heap_grown HP0.out hg
      have hg0 := grownBy_trans (World.grownBy_alloc w (.cells #[.int .i64 k, .int .i64 n, .int .i64 g, .int .i64 z, .int .i64 sg, .int .i64 t, .int .i64 b, .int .i64 l] 47) none) hg
      have c2 : w1.cell? ⟨w.heap.size, 2, none⟩ = some (.int .i64 g) := by simp only [World.cell?, hp]; rfl
      have c3 : w1.cell? ⟨w.heap.size, 3, none⟩ = some (.int .i64 z) := by simp only [World.cell?, hp]; rfl
      have HG0 := Lib.hid hg0
      clear hg hg0 hp HP0
      go_wp2_with fail
      refine bodyPost_ret (by simp [*, results, Try.results39, go_sem]; try rfl) rfl ?_
      exact ⟨rfl, HG0.out⟩
    clear hx
    have hr := cv_in hfit (a := a) (m := m) (by omega)
    obtain ⟨K, N, G, Z, F⟩ := fits_fit hfit
    have e1 : s.seg = (G : Int) := by rw [F.eq]; rfl
    have e2 : s.size = (Z : Int) := by rw [F.eq]; rfl
    have hG1 := F.g1
    have hG2 := F.g2
    have hZ2 := F.z2
    rw [hr.1, hr.2.1, hr.2.2, e1]
    rw [e2] at h3 h4 hw
    clear hr hfit hs F
    obtain ⟨k, n, g, z, sg, t, b, l⟩ := s
    simp only at e1 e2
    subst e1 e2
    obtain ⟨A, rfl⟩ : ∃ A : Nat, a = (A : Int) := ⟨a.toNat, by omega⟩
    obtain ⟨M, rfl⟩ : ∃ A : Nat, m = (A : Int) := ⟨m.toNat, by omega⟩
    simp only [Int.toNat_natCast]
    obtain ⟨q1, hq1⟩ : ∃ q, q = A / G := ⟨_, rfl⟩
    obtain ⟨q2, hq2⟩ : ∃ q, q = (A + M - 1) / G := ⟨_, rfl⟩
    have b1 : q1 ≤ A := by rw [hq1]; exact Nat.div_le_self _ _
    have b2 : q2 ≤ A + M - 1 := by rw [hq2]; exact Nat.div_le_self _ _
    have w1 : IntKind.i64.wrap ((A : Int) + M) = (A : Int) + M := IntWalk.i64_in _ (by omega)
    have w2 : IntKind.i64.wrap ((A : Int) + M - 1) = (A : Int) + M - 1 := IntWalk.i64_in _ (by omega)
    have d1 : (A : Int).tdiv (G : Int) = (q1 : Int) := by rw [hq1]; rfl
    have d1' : (A : Int) / (G : Int) = (q1 : Int) := by rw [hq1]; rfl
    have d2 : ((A : Int) + M - 1).tdiv (G : Int) = (q2 : Int) := by rw [hq2, show (A : Int) + M - 1 = ((A + M - 1 : Nat) : Int) by omega]; rfl
    have d2' : ((A : Int) + M - 1) / (G : Int) = (q2 : Int) := by rw [hq2, show (A : Int) + M - 1 = ((A + M - 1 : Nat) : Int) by omega]; rfl
    have w3 : IntKind.i64.wrap (q1 : Int) = (q1 : Int) := i64_nat _ (by omega)
    have w4 : IntKind.i64.wrap (q2 : Int) = (q2 : Int) := i64_nat _ (by omega)
    have hG0 : ¬ (G : Int) = 0 := by omega
    have hG3 : ((G : Int) == 0) = false := by simpa using hG0
    have w5 : IntKind.i64.wrap ((A : Int).tdiv (G : Int)) = (q1 : Int) := by rw [d1]; exact w3
    have w6 : IntKind.i64.wrap (((A : Int) + M - 1).tdiv (G : Int)) = (q2 : Int) := by rw [d2]; exact w4
    rw [← hq1, ← hq2]
    replace hq1 := Lib.hid hq1
    replace hq2 := Lib.hid hq2
    clear ha hm
    unfold Sh.val at HF ⊢
    go_enter Try.func39, Try.ntmps39
    have HP0 := Lib.hid (heap_alloc_new w (.cells #[.int .i64 k, .int .i64 n, .int .i64 (G : Int), .int .i64 (Z : Int), .int .i64 sg, .int .i64 t, .int .i64 b, .int .i64 l] 47))
    go_wp2_with (first | (refine wpList_load_row rfl 47 _ rfl w.heap.size rfl 47 #[.int .i64 k, .int .i64 n, .int .i64 (G : Int), .int .i64 (Z : Int), .int .i64 sg, .int .i64 t, .int .i64 b, .int .i64 l] (0, 0) _ HP0.out Try.underlying47 rfl size_shape ?_))
    refine (HF.out _).mono ?_
    rintro e w1 ⟨rfl, hg⟩
    have hp := heap_grown HP0.out hg
    have hg0 := grownBy_trans (World.grownBy_alloc w (.cells #[.int .i64 k, .int .i64 n, .int .i64 (G : Int), .int .i64 (Z : Int), .int .i64 sg, .int .i64 t, .int .i64 b, .int .i64 l] 47) none) hg
    have c2 : w1.cell? ⟨w.heap.size, 2, none⟩ = some (.int .i64 (G : Int)) := by simp only [World.cell?, hp]; rfl
    have c3 : w1.cell? ⟨w.heap.size, 3, none⟩ = some (.int .i64 (Z : Int)) := by simp only [World.cell?, hp]; rfl
    have HG0 := Lib.hid hg0
    clear hg hg0 hp HP0
    go_wp2_with fail
    go_quiet (fail)
    go_wp2_with fail
    refine bodyPost_ret (by simp [*, results, Try.results39, go_sem]; try rfl) rfl ?_
    exact ⟨rfl, grownBy_trans HG0.out (grownBy_drewN _ _ none)⟩
  · simp only [hfit, decide_false] at hf
    have HF := Lib.hid hf
    clear hf
    have hr := cv_no (a := a) (m := m) hfit
    rw [hr.1, hr.2.1, hr.2.2]
    clear hr hfit hs
    obtain ⟨k, n, g, z, sg, t, b, l⟩ := s
    unfold Sh.val at HF ⊢
    go_enter Try.func39, Try.ntmps39
    have HP0 := Lib.hid (heap_alloc_new w (.cells #[.int .i64 k, .int .i64 n, .int .i64 g, .int .i64 z, .int .i64 sg, .int .i64 t, .int .i64 b, .int .i64 l] 47))
    go_wp2_with (first | (refine wpList_load_row rfl 47 _ rfl w.heap.size rfl 47 #[.int .i64 k, .int .i64 n, .int .i64 g, .int .i64 z, .int .i64 sg, .int .i64 t, .int .i64 b, .int .i64 l] (0, 0) _ HP0.out Try.underlying47 rfl size_shape ?_))
    refine (HF.out _).mono ?_
    rintro e w1 ⟨rfl, hg⟩
    have hp := heap_grown HP0.out hg
    have hg0 := grownBy_trans (World.grownBy_alloc w (.cells #[.int .i64 k, .int .i64 n, .int .i64 g, .int .i64 z, .int .i64 sg, .int .i64 t, .int .i64 b, .int .i64 l] 47) none) hg
    have c2 : w1.cell? ⟨w.heap.size, 2, none⟩ = some (.int .i64 g) := by simp only [World.cell?, hp]; rfl
    have c3 : w1.cell? ⟨w.heap.size, 3, none⟩ = some (.int .i64 z) := by simp only [World.cell?, hp]; rfl
    have HG0 := Lib.hid hg0
    clear hg hg0 hp HP0
    go_wp2_with fail
    refine bodyPost_ret (by simp [*, results, Try.results39, go_sem]; try rfl) rfl ?_
    exact ⟨rfl, HG0.out⟩

end Go.Proofs.Ytfboddnpkaiifaa
/- the document's Cover. -/
namespace Go.Proofs.Ytfboddnpkaiifaa
open Go.RowKit

set_option maxRecDepth 100000 in
set_option maxHeartbeats 4000000 in
theorem refCover_n (s : Sh) (hs : s.Wf) (a m : Int) (ha : i64ok a) (hm : i64ok m) (w : World) : Calls Try.prog 44 #[s.val, .int .i64 a, .int .i64 m] w fun e w' => e = .returned (.tuple #[.int .i64 (cvA s a m), .int .i64 (cvB s a m), .int .i64 (cvE s a m : Nat)]) ∧ w.grownBy w' none := by
  have hf := refFits_n s hs
  by_cases hfit : fits s
  · simp only [hfit, decide_true] at hf
    have HF := Lib.hid hf
    clear hf
    by_cases h1 : a < 0
    · have hx := hs.size
      have hr := cv_out hfit (a := a) (m := m) (fun h => by omega)
      rw [hr.1, hr.2.1, hr.2.2]
      clear hr hfit hs
      obtain ⟨k, n, g, z, sg, t, b, l⟩ := s
      clear hx
      unfold Sh.val at HF ⊢
      go_enter Try.func44, Try.ntmps44
      have HP0 := Lib.hid (heap_alloc_new w (.cells #[.int .i64 k, .int .i64 n, .int .i64 g, .int .i64 z, .int .i64 sg, .int .i64 t, .int .i64 b, .int .i64 l] 47))
      go_wp2_with (first | (refine wpList_load_row rfl 47 _ rfl w.heap.size rfl 47 #[.int .i64 k, .int .i64 n, .int .i64 g, .int .i64 z, .int .i64 sg, .int .i64 t, .int .i64 b, .int .i64 l] (0, 0) _ HP0.out Try.underlying47 rfl size_shape ?_))
      refine (HF.out _).mono ?_
      rintro e w1 ⟨rfl, hg⟩
      have hp := heap_grown HP0.out hg
      have hg0 := grownBy_trans (World.grownBy_alloc w (.cells #[.int .i64 k, .int .i64 n, .int .i64 g, .int .i64 z, .int .i64 sg, .int .i64 t, .int .i64 b, .int .i64 l] 47) none) hg
      have c2 : w1.cell? ⟨w.heap.size, 2, none⟩ = some (.int .i64 g) := by simp only [World.cell?, hp]; rfl
      have c3 : w1.cell? ⟨w.heap.size, 3, none⟩ = some (.int .i64 z) := by simp only [World.cell?, hp]; rfl
      have HG0 := Lib.hid hg0
      clear hg hg0 hp HP0
      go_wp2_with fail
      refine bodyPost_ret (by simp [*, results, Try.results44, go_sem]; try rfl) rfl ?_
      exact ⟨rfl, HG0.out⟩
    by_cases h2 : m < 1
    · skip
      have hr := cv_out hfit (a := a) (m := m) (fun h => by omega)
      rw [hr.1, hr.2.1, hr.2.2]
      clear hr hfit hs
      obtain ⟨k, n, g, z, sg, t, b, l⟩ := s
      unfold Sh.val at HF ⊢
      go_enter Try.func44, Try.ntmps44
      have HP0 := Lib.hid (heap_alloc_new w (.cells #[.int .i64 k, .int .i64 n, .int .i64 g, .int .i64 z, .int .i64 sg, .int .i64 t, .int .i64 b, .int .i64 l] 47))
      go_wp2_with (first | (refine wpList_load_row rfl 47 _ rfl w.heap.size rfl 47 #[.int .i64 k, .int .i64 n, .int .i64 g, .int .i64 z, .int .i64 sg, .int .i64 t, .int .i64 b, .int .i64 l] (0, 0) _ HP0.out Try.underlying47 rfl size_shape ?_))
      refine (HF.out _).mono ?_
      rintro e w1 ⟨rfl, hg⟩
      have hp := heap_grown HP0.out hg
      have hg0 := grownBy_trans (World.grownBy_alloc w (.cells #[.int .i64 k, .int .i64 n, .int .i64 g, .int .i64 z, .int .i64 sg, .int .i64 t, .int .i64 b, .int .i64 l] 47) none) hg
      have c2 : w1.cell? ⟨w.heap.size, 2, none⟩ = some (.int .i64 g) := by simp only [World.cell?, hp]; rfl
      have c3 : w1.cell? ⟨w.heap.size, 3, none⟩ = some (.int .i64 z) := by simp only [World.cell?, hp]; rfl
      have HG0 := Lib.hid hg0
      clear hg hg0 hp HP0
      go_wp2_with fail
      refine bodyPost_ret (by simp [*, results, Try.results44, go_sem]; try rfl) rfl ?_
      exact ⟨rfl, HG0.out⟩
    by_cases h3 : s.size < a
    · skip
      have hr := cv_out hfit (a := a) (m := m) (fun h => by omega)
      rw [hr.1, hr.2.1, hr.2.2]
      clear hr hfit hs
      obtain ⟨k, n, g, z, sg, t, b, l⟩ := s
      simp only at h3
      unfold Sh.val at HF ⊢
      go_enter Try.func44, Try.ntmps44
      have HP0 := Lib.hid (heap_alloc_new w (.cells #[.int .i64 k, .int .i64 n, .int .i64 g, .int .i64 z, .int .i64 sg, .int .i64 t, .int .i64 b, .int .i64 l] 47))
      go_wp2_with (first | (refine wpList_load_row rfl 47 _ rfl w.heap.size rfl 47 #[.int .i64 k, .int .i64 n, .int .i64 g, .int .i64 z, .int .i64 sg, .int .i64 t, .int .i64 b, .int .i64 l] (0, 0) _ HP0.out Try.underlying47 rfl size_shape ?_))
      refine (HF.out _).mono ?_
      rintro e w1 ⟨rfl, hg⟩
      have hp := heap_grown HP0.out hg
      have hg0 := grownBy_trans (World.grownBy_alloc w (.cells #[.int .i64 k, .int .i64 n, .int .i64 g, .int .i64 z, .int .i64 sg, .int .i64 t, .int .i64 b, .int .i64 l] 47) none) hg
      have c2 : w1.cell? ⟨w.heap.size, 2, none⟩ = some (.int .i64 g) := by simp only [World.cell?, hp]; rfl
      have c3 : w1.cell? ⟨w.heap.size, 3, none⟩ = some (.int .i64 z) := by simp only [World.cell?, hp]; rfl
      have HG0 := Lib.hid hg0
      clear hg hg0 hp HP0
      go_wp2_with fail
      refine bodyPost_ret (by simp [*, results, Try.results44, go_sem]; try rfl) rfl ?_
      exact ⟨rfl, HG0.out⟩
    have hx := hs.size
    have hw : IntKind.i64.wrap (s.size - a) = s.size - a := IntWalk.i64_in _ (by unfold i64ok at hx; omega)
    by_cases h4 : s.size - a < m
    · clear hx
      have hr := cv_out hfit (a := a) (m := m) (fun h => by omega)
      rw [hr.1, hr.2.1, hr.2.2]
      clear hr hfit hs
      obtain ⟨k, n, g, z, sg, t, b, l⟩ := s
      simp only at h3 h4 hw
      unfold Sh.val at HF ⊢
      go_enter Try.func44, Try.ntmps44
      have HP0 := Lib.hid (heap_alloc_new w (.cells #[.int .i64 k, .int .i64 n, .int .i64 g, .int .i64 z, .int .i64 sg, .int .i64 t, .int .i64 b, .int .i64 l] 47))
      go_wp2_with (first | (refine wpList_load_row rfl 47 _ rfl w.heap.size rfl 47 #[.int .i64 k, .int .i64 n, .int .i64 g, .int .i64 z, .int .i64 sg, .int .i64 t, .int .i64 b, .int .i64 l] (0, 0) _ HP0.out Try.underlying47 rfl size_shape ?_))
      refine (HF.out _).mono ?_
      rintro e w1 ⟨rfl, hg⟩
      have hp := heap_grown HP0.out hg
      have hg0 := grownBy_trans (World.grownBy_alloc w (.cells #[.int .i64 k, .int .i64 n, .int .i64 g, .int .i64 z, .int .i64 sg, .int .i64 t, .int .i64 b, .int .i64 l] 47) none) hg
      have c2 : w1.cell? ⟨w.heap.size, 2, none⟩ = some (.int .i64 g) := by simp only [World.cell?, hp]; rfl
      have c3 : w1.cell? ⟨w.heap.size, 3, none⟩ = some (.int .i64 z) := by simp only [World.cell?, hp]; rfl
      have HG0 := Lib.hid hg0
      clear hg hg0 hp HP0
      go_wp2_with fail
      refine bodyPost_ret (by simp [*, results, Try.results44, go_sem]; try rfl) rfl ?_
      exact ⟨rfl, HG0.out⟩
    clear hx
    have hr := cv_in hfit (a := a) (m := m) (by omega)
    obtain ⟨K, N, G, Z, F⟩ := fits_fit hfit
    have e1 : s.seg = (G : Int) := by rw [F.eq]; rfl
    have e2 : s.size = (Z : Int) := by rw [F.eq]; rfl
    have hG1 := F.g1
    have hG2 := F.g2
    have hZ2 := F.z2
    rw [hr.1, hr.2.1, hr.2.2, e1]
    rw [e2] at h3 h4 hw
    clear hr hfit hs F
    obtain ⟨k, n, g, z, sg, t, b, l⟩ := s
    simp only at e1 e2
    subst e1 e2
    obtain ⟨A, rfl⟩ : ∃ A : Nat, a = (A : Int) := ⟨a.toNat, by omega⟩
    obtain ⟨M, rfl⟩ : ∃ A : Nat, m = (A : Int) := ⟨m.toNat, by omega⟩
    simp only [Int.toNat_natCast]
    obtain ⟨q1, hq1⟩ : ∃ q, q = A / G := ⟨_, rfl⟩
    obtain ⟨q2, hq2⟩ : ∃ q, q = (A + M - 1) / G := ⟨_, rfl⟩
    have b1 : q1 ≤ A := by rw [hq1]; exact Nat.div_le_self _ _
    have b2 : q2 ≤ A + M - 1 := by rw [hq2]; exact Nat.div_le_self _ _
    have w1 : IntKind.i64.wrap ((A : Int) + M) = (A : Int) + M := IntWalk.i64_in _ (by omega)
    have w2 : IntKind.i64.wrap ((A : Int) + M - 1) = (A : Int) + M - 1 := IntWalk.i64_in _ (by omega)
    have d1 : (A : Int).tdiv (G : Int) = (q1 : Int) := by rw [hq1]; rfl
    have d1' : (A : Int) / (G : Int) = (q1 : Int) := by rw [hq1]; rfl
    have d2 : ((A : Int) + M - 1).tdiv (G : Int) = (q2 : Int) := by rw [hq2, show (A : Int) + M - 1 = ((A + M - 1 : Nat) : Int) by omega]; rfl
    have d2' : ((A : Int) + M - 1) / (G : Int) = (q2 : Int) := by rw [hq2, show (A : Int) + M - 1 = ((A + M - 1 : Nat) : Int) by omega]; rfl
    have w3 : IntKind.i64.wrap (q1 : Int) = (q1 : Int) := i64_nat _ (by omega)
    have w4 : IntKind.i64.wrap (q2 : Int) = (q2 : Int) := i64_nat _ (by omega)
    have hG0 : ¬ (G : Int) = 0 := by omega
    have hG3 : ((G : Int) == 0) = false := by simpa using hG0
    have w5 : IntKind.i64.wrap ((A : Int).tdiv (G : Int)) = (q1 : Int) := by rw [d1]; exact w3
    have w6 : IntKind.i64.wrap (((A : Int) + M - 1).tdiv (G : Int)) = (q2 : Int) := by rw [d2]; exact w4
    rw [← hq1, ← hq2]
    replace hq1 := Lib.hid hq1
    replace hq2 := Lib.hid hq2
    clear ha hm
    unfold Sh.val at HF ⊢
    go_enter Try.func44, Try.ntmps44
    have HP0 := Lib.hid (heap_alloc_new w (.cells #[.int .i64 k, .int .i64 n, .int .i64 (G : Int), .int .i64 (Z : Int), .int .i64 sg, .int .i64 t, .int .i64 b, .int .i64 l] 47))
    go_wp2_with (first | (refine wpList_load_row rfl 47 _ rfl w.heap.size rfl 47 #[.int .i64 k, .int .i64 n, .int .i64 (G : Int), .int .i64 (Z : Int), .int .i64 sg, .int .i64 t, .int .i64 b, .int .i64 l] (0, 0) _ HP0.out Try.underlying47 rfl size_shape ?_))
    refine (HF.out _).mono ?_
    rintro e w1 ⟨rfl, hg⟩
    have hp := heap_grown HP0.out hg
    have hg0 := grownBy_trans (World.grownBy_alloc w (.cells #[.int .i64 k, .int .i64 n, .int .i64 (G : Int), .int .i64 (Z : Int), .int .i64 sg, .int .i64 t, .int .i64 b, .int .i64 l] 47) none) hg
    have c2 : w1.cell? ⟨w.heap.size, 2, none⟩ = some (.int .i64 (G : Int)) := by simp only [World.cell?, hp]; rfl
    have c3 : w1.cell? ⟨w.heap.size, 3, none⟩ = some (.int .i64 (Z : Int)) := by simp only [World.cell?, hp]; rfl
    have HG0 := Lib.hid hg0
    clear hg hg0 hp HP0
    go_wp2_with fail
    go_quiet (fail)
    go_wp2_with fail
    refine bodyPost_ret (by simp [*, results, Try.results44, go_sem]; try rfl) rfl ?_
    exact ⟨rfl, grownBy_trans HG0.out (grownBy_drewN _ _ none)⟩
  · simp only [hfit, decide_false] at hf
    have HF := Lib.hid hf
    clear hf
    have hr := cv_no (a := a) (m := m) hfit
    rw [hr.1, hr.2.1, hr.2.2]
    clear hr hfit hs
    obtain ⟨k, n, g, z, sg, t, b, l⟩ := s
    unfold Sh.val at HF ⊢
    go_enter Try.func44, Try.ntmps44
    have HP0 := Lib.hid (heap_alloc_new w (.cells #[.int .i64 k, .int .i64 n, .int .i64 g, .int .i64 z, .int .i64 sg, .int .i64 t, .int .i64 b, .int .i64 l] 47))
    go_wp2_with (first | (refine wpList_load_row rfl 47 _ rfl w.heap.size rfl 47 #[.int .i64 k, .int .i64 n, .int .i64 g, .int .i64 z, .int .i64 sg, .int .i64 t, .int .i64 b, .int .i64 l] (0, 0) _ HP0.out Try.underlying47 rfl size_shape ?_))
    refine (HF.out _).mono ?_
    rintro e w1 ⟨rfl, hg⟩
    have hp := heap_grown HP0.out hg
    have hg0 := grownBy_trans (World.grownBy_alloc w (.cells #[.int .i64 k, .int .i64 n, .int .i64 g, .int .i64 z, .int .i64 sg, .int .i64 t, .int .i64 b, .int .i64 l] 47) none) hg
    have c2 : w1.cell? ⟨w.heap.size, 2, none⟩ = some (.int .i64 g) := by simp only [World.cell?, hp]; rfl
    have c3 : w1.cell? ⟨w.heap.size, 3, none⟩ = some (.int .i64 z) := by simp only [World.cell?, hp]; rfl
    have HG0 := Lib.hid hg0
    clear hg hg0 hp HP0
    go_wp2_with fail
    refine bodyPost_ret (by simp [*, results, Try.results44, go_sem]; try rfl) rfl ?_
    exact ⟨rfl, HG0.out⟩

end Go.Proofs.Ytfboddnpkaiifaa
/- the document's size, SegSize, BlockSize. -/
namespace Go.Proofs.Ytfboddnpkaiifaa
open Go.RowKit

set_option maxRecDepth 100000 in
set_option maxHeartbeats 4000000 in
theorem refSize_n (s : Sh) (hs : s.Wf) (j : Int) (w : World) : Calls Try.prog 58 #[s.val, .int .i64 j] w fun e w' => e = .returned (.tuple #[.int .i64 (szV s j s.seg s.tail), .int .i64 (szV s j s.block s.last), .int .i64 (szE s j : Nat)]) ∧ w.grownBy w' none := by
  have hf := refFits_n s hs
  have hsw := hs.segs
  by_cases hfit : fits s
  · simp only [hfit, decide_true] at hf
    have HF := Lib.hid hf
    clear hf
    by_cases h1 : j < 0
    · have hr := sz_out (j := j) (u := s.seg) (l := s.tail) hfit (fun h => by omega)
      have hr2 := sz_out (j := j) (u := s.block) (l := s.last) hfit (fun h => by omega)
      rw [hr.1, hr.2, hr2.2]
      clear hr hr2 hfit hs
      obtain ⟨k, n, g, z, sg, t, b, l⟩ := s
      unfold Sh.val at HF ⊢
      go_enter Try.func58, Try.ntmps58
      have HP0 := Lib.hid (heap_alloc_new w (.cells #[.int .i64 k, .int .i64 n, .int .i64 g, .int .i64 z, .int .i64 sg, .int .i64 t, .int .i64 b, .int .i64 l] 47))
      go_wp2_with (first | (refine wpList_load_row rfl 47 _ rfl w.heap.size rfl 47 #[.int .i64 k, .int .i64 n, .int .i64 g, .int .i64 z, .int .i64 sg, .int .i64 t, .int .i64 b, .int .i64 l] (0, 0) _ HP0.out Try.underlying47 rfl size_shape ?_))
      refine (HF.out _).mono ?_
      rintro e w1 ⟨rfl, hg⟩
      have hp := heap_grown HP0.out hg
      have hg0 := grownBy_trans (World.grownBy_alloc w (.cells #[.int .i64 k, .int .i64 n, .int .i64 g, .int .i64 z, .int .i64 sg, .int .i64 t, .int .i64 b, .int .i64 l] 47) none) hg
      have c2 : w1.cell? ⟨w.heap.size, 2, none⟩ = some (.int .i64 g) := by simp only [World.cell?, hp]; rfl
      have c3 : w1.cell? ⟨w.heap.size, 3, none⟩ = some (.int .i64 z) := by simp only [World.cell?, hp]; rfl
      have c4 : w1.cell? ⟨w.heap.size, 4, none⟩ = some (.int .i64 sg) := by simp only [World.cell?, hp]; rfl
      have c5 : w1.cell? ⟨w.heap.size, 5, none⟩ = some (.int .i64 t) := by simp only [World.cell?, hp]; rfl
      have c6 : w1.cell? ⟨w.heap.size, 6, none⟩ = some (.int .i64 b) := by simp only [World.cell?, hp]; rfl
      have c7 : w1.cell? ⟨w.heap.size, 7, none⟩ = some (.int .i64 l) := by simp only [World.cell?, hp]; rfl
      have HG0 := Lib.hid hg0
      clear hg hg0 hp HP0
      go_wp2_with fail
      (try simp only [Exit.inBlock, Exit.then])
      refine bodyPost_ret (by simp [*, results, Try.results58, go_sem]; try rfl) rfl ?_
      exact ⟨rfl, HG0.out⟩
    · by_cases h2 : s.segs ≤ j
      · have hr := sz_out (j := j) (u := s.seg) (l := s.tail) hfit (fun h => by omega)
        have hr2 := sz_out (j := j) (u := s.block) (l := s.last) hfit (fun h => by omega)
        rw [hr.1, hr.2, hr2.2]
        clear hr hr2 hfit hs
        obtain ⟨k, n, g, z, sg, t, b, l⟩ := s
        simp only at h2
        unfold Sh.val at HF ⊢
        go_enter Try.func58, Try.ntmps58
        have HP0 := Lib.hid (heap_alloc_new w (.cells #[.int .i64 k, .int .i64 n, .int .i64 g, .int .i64 z, .int .i64 sg, .int .i64 t, .int .i64 b, .int .i64 l] 47))
        go_wp2_with (first | (refine wpList_load_row rfl 47 _ rfl w.heap.size rfl 47 #[.int .i64 k, .int .i64 n, .int .i64 g, .int .i64 z, .int .i64 sg, .int .i64 t, .int .i64 b, .int .i64 l] (0, 0) _ HP0.out Try.underlying47 rfl size_shape ?_))
        refine (HF.out _).mono ?_
        rintro e w1 ⟨rfl, hg⟩
        have hp := heap_grown HP0.out hg
        have hg0 := grownBy_trans (World.grownBy_alloc w (.cells #[.int .i64 k, .int .i64 n, .int .i64 g, .int .i64 z, .int .i64 sg, .int .i64 t, .int .i64 b, .int .i64 l] 47) none) hg
        have c2 : w1.cell? ⟨w.heap.size, 2, none⟩ = some (.int .i64 g) := by simp only [World.cell?, hp]; rfl
        have c3 : w1.cell? ⟨w.heap.size, 3, none⟩ = some (.int .i64 z) := by simp only [World.cell?, hp]; rfl
        have c4 : w1.cell? ⟨w.heap.size, 4, none⟩ = some (.int .i64 sg) := by simp only [World.cell?, hp]; rfl
        have c5 : w1.cell? ⟨w.heap.size, 5, none⟩ = some (.int .i64 t) := by simp only [World.cell?, hp]; rfl
        have c6 : w1.cell? ⟨w.heap.size, 6, none⟩ = some (.int .i64 b) := by simp only [World.cell?, hp]; rfl
        have c7 : w1.cell? ⟨w.heap.size, 7, none⟩ = some (.int .i64 l) := by simp only [World.cell?, hp]; rfl
        have HG0 := Lib.hid hg0
        clear hg hg0 hp HP0
        go_wp2_with fail
        (try simp only [Exit.inBlock, Exit.then])
        refine bodyPost_ret (by simp [*, results, Try.results58, go_sem]; try rfl) rfl ?_
        exact ⟨rfl, HG0.out⟩
      · have hr := sz_in (j := j) (u := s.seg) (l := s.tail) hfit (by omega)
        have hr2 := sz_in (j := j) (u := s.block) (l := s.last) hfit (by omega)
        have hw : IntKind.i64.wrap (s.segs - 1) = s.segs - 1 := IntWalk.i64_in _ (by unfold i64ok at hsw; omega)
        rw [hr.1, hr.2, hr2.2]
        clear hr hr2 hfit hs
        obtain ⟨k, n, g, z, sg, t, b, l⟩ := s
        simp only at h2 hw
        unfold Sh.val at HF ⊢
        by_cases h3 : j = sg - 1
        · rw [if_pos h3, if_pos h3]
          subst h3
          go_enter Try.func58, Try.ntmps58
          have HP0 := Lib.hid (heap_alloc_new w (.cells #[.int .i64 k, .int .i64 n, .int .i64 g, .int .i64 z, .int .i64 sg, .int .i64 t, .int .i64 b, .int .i64 l] 47))
          go_wp2_with (first | (refine wpList_load_row rfl 47 _ rfl w.heap.size rfl 47 #[.int .i64 k, .int .i64 n, .int .i64 g, .int .i64 z, .int .i64 sg, .int .i64 t, .int .i64 b, .int .i64 l] (0, 0) _ HP0.out Try.underlying47 rfl size_shape ?_))
          refine (HF.out _).mono ?_
          rintro e w1 ⟨rfl, hg⟩
          have hp := heap_grown HP0.out hg
          have hg0 := grownBy_trans (World.grownBy_alloc w (.cells #[.int .i64 k, .int .i64 n, .int .i64 g, .int .i64 z, .int .i64 sg, .int .i64 t, .int .i64 b, .int .i64 l] 47) none) hg
          have c2 : w1.cell? ⟨w.heap.size, 2, none⟩ = some (.int .i64 g) := by simp only [World.cell?, hp]; rfl
          have c3 : w1.cell? ⟨w.heap.size, 3, none⟩ = some (.int .i64 z) := by simp only [World.cell?, hp]; rfl
          have c4 : w1.cell? ⟨w.heap.size, 4, none⟩ = some (.int .i64 sg) := by simp only [World.cell?, hp]; rfl
          have c5 : w1.cell? ⟨w.heap.size, 5, none⟩ = some (.int .i64 t) := by simp only [World.cell?, hp]; rfl
          have c6 : w1.cell? ⟨w.heap.size, 6, none⟩ = some (.int .i64 b) := by simp only [World.cell?, hp]; rfl
          have c7 : w1.cell? ⟨w.heap.size, 7, none⟩ = some (.int .i64 l) := by simp only [World.cell?, hp]; rfl
          have HG0 := Lib.hid hg0
          clear hg hg0 hp HP0
          go_wp2_with fail
          go_quiet (fail)
          go_wp2_with fail
          (try simp only [Exit.inBlock, Exit.then])
          refine bodyPost_ret (by simp [*, results, Try.results58, go_sem]; try rfl) rfl ?_
          exact ⟨rfl, grownBy_trans HG0.out (grownBy_drewN _ _ none)⟩
        · rw [if_neg h3, if_neg h3]
          go_enter Try.func58, Try.ntmps58
          have HP0 := Lib.hid (heap_alloc_new w (.cells #[.int .i64 k, .int .i64 n, .int .i64 g, .int .i64 z, .int .i64 sg, .int .i64 t, .int .i64 b, .int .i64 l] 47))
          go_wp2_with (first | (refine wpList_load_row rfl 47 _ rfl w.heap.size rfl 47 #[.int .i64 k, .int .i64 n, .int .i64 g, .int .i64 z, .int .i64 sg, .int .i64 t, .int .i64 b, .int .i64 l] (0, 0) _ HP0.out Try.underlying47 rfl size_shape ?_))
          refine (HF.out _).mono ?_
          rintro e w1 ⟨rfl, hg⟩
          have hp := heap_grown HP0.out hg
          have hg0 := grownBy_trans (World.grownBy_alloc w (.cells #[.int .i64 k, .int .i64 n, .int .i64 g, .int .i64 z, .int .i64 sg, .int .i64 t, .int .i64 b, .int .i64 l] 47) none) hg
          have c2 : w1.cell? ⟨w.heap.size, 2, none⟩ = some (.int .i64 g) := by simp only [World.cell?, hp]; rfl
          have c3 : w1.cell? ⟨w.heap.size, 3, none⟩ = some (.int .i64 z) := by simp only [World.cell?, hp]; rfl
          have c4 : w1.cell? ⟨w.heap.size, 4, none⟩ = some (.int .i64 sg) := by simp only [World.cell?, hp]; rfl
          have c5 : w1.cell? ⟨w.heap.size, 5, none⟩ = some (.int .i64 t) := by simp only [World.cell?, hp]; rfl
          have c6 : w1.cell? ⟨w.heap.size, 6, none⟩ = some (.int .i64 b) := by simp only [World.cell?, hp]; rfl
          have c7 : w1.cell? ⟨w.heap.size, 7, none⟩ = some (.int .i64 l) := by simp only [World.cell?, hp]; rfl
          have HG0 := Lib.hid hg0
          clear hg hg0 hp HP0
          go_wp2_with fail
          go_quiet (fail)
          go_wp2_with fail
          (try simp only [Exit.inBlock, Exit.then])
          refine bodyPost_ret (by simp [*, results, Try.results58, go_sem]; try rfl) rfl ?_
          exact ⟨rfl, grownBy_trans HG0.out (grownBy_drewN _ _ none)⟩
  · simp only [hfit, decide_false] at hf
    have HF := Lib.hid hf
    clear hf
    have hr := sz_no (j := j) (u := s.seg) (l := s.tail) hfit
    have hr2 := sz_no (j := j) (u := s.block) (l := s.last) hfit
    rw [hr.1, hr.2, hr2.2]
    clear hr hr2 hfit hs
    obtain ⟨k, n, g, z, sg, t, b, l⟩ := s
    unfold Sh.val at HF ⊢
    go_enter Try.func58, Try.ntmps58
    have HP0 := Lib.hid (heap_alloc_new w (.cells #[.int .i64 k, .int .i64 n, .int .i64 g, .int .i64 z, .int .i64 sg, .int .i64 t, .int .i64 b, .int .i64 l] 47))
    go_wp2_with (first | (refine wpList_load_row rfl 47 _ rfl w.heap.size rfl 47 #[.int .i64 k, .int .i64 n, .int .i64 g, .int .i64 z, .int .i64 sg, .int .i64 t, .int .i64 b, .int .i64 l] (0, 0) _ HP0.out Try.underlying47 rfl size_shape ?_))
    refine (HF.out _).mono ?_
    rintro e w1 ⟨rfl, hg⟩
    have hp := heap_grown HP0.out hg
    have hg0 := grownBy_trans (World.grownBy_alloc w (.cells #[.int .i64 k, .int .i64 n, .int .i64 g, .int .i64 z, .int .i64 sg, .int .i64 t, .int .i64 b, .int .i64 l] 47) none) hg
    have c2 : w1.cell? ⟨w.heap.size, 2, none⟩ = some (.int .i64 g) := by simp only [World.cell?, hp]; rfl
    have c3 : w1.cell? ⟨w.heap.size, 3, none⟩ = some (.int .i64 z) := by simp only [World.cell?, hp]; rfl
    have c4 : w1.cell? ⟨w.heap.size, 4, none⟩ = some (.int .i64 sg) := by simp only [World.cell?, hp]; rfl
    have c5 : w1.cell? ⟨w.heap.size, 5, none⟩ = some (.int .i64 t) := by simp only [World.cell?, hp]; rfl
    have c6 : w1.cell? ⟨w.heap.size, 6, none⟩ = some (.int .i64 b) := by simp only [World.cell?, hp]; rfl
    have c7 : w1.cell? ⟨w.heap.size, 7, none⟩ = some (.int .i64 l) := by simp only [World.cell?, hp]; rfl
    have HG0 := Lib.hid hg0
    clear hg hg0 hp HP0
    go_wp2_with fail
    (try simp only [Exit.inBlock, Exit.then])
    refine bodyPost_ret (by simp [*, results, Try.results58, go_sem]; try rfl) rfl ?_
    exact ⟨rfl, HG0.out⟩

set_option maxRecDepth 100000 in
set_option maxHeartbeats 4000000 in
theorem refSegSize_n (s : Sh) (hs : s.Wf) (j : Int) (w : World) : Calls Try.prog 42 #[s.val, .int .i64 j] w fun e w' => e = .returned (.tuple #[.int .i64 (szV s j s.seg s.tail), .int .i64 (szE s j : Nat)]) ∧ w.grownBy w' none := by
  have hf := refSize_n s hs j
  generalize szV s j s.seg s.tail = V1 at hf ⊢
  generalize szV s j s.block s.last = V2 at hf ⊢
  generalize szE s j = E at hf ⊢
  clear hs
  obtain ⟨k, n, g, z, sg, t, b, l⟩ := s
  unfold Sh.val at hf ⊢
  have HF := Lib.hid hf
  clear hf
  go_enter Try.func42, Try.ntmps42
  have HP0 := Lib.hid (heap_alloc_new w (.cells #[.int .i64 k, .int .i64 n, .int .i64 g, .int .i64 z, .int .i64 sg, .int .i64 t, .int .i64 b, .int .i64 l] 47))
  go_wp2_with (first | (refine wpList_load_row rfl 47 _ rfl w.heap.size rfl 47 #[.int .i64 k, .int .i64 n, .int .i64 g, .int .i64 z, .int .i64 sg, .int .i64 t, .int .i64 b, .int .i64 l] (0, 0) _ HP0.out Try.underlying47 rfl size_shape ?_))
  refine (HF.out _).mono ?_
  rintro e w1 ⟨rfl, hg⟩
  have HG0 := Lib.hid (grownBy_trans (World.grownBy_alloc w (.cells #[.int .i64 k, .int .i64 n, .int .i64 g, .int .i64 z, .int .i64 sg, .int .i64 t, .int .i64 b, .int .i64 l] 47) none) hg)
  clear hg HP0
  go_wp2_with fail
  (try simp only [Exit.inBlock, Exit.then])
  refine bodyPost_ret (by simp [*, results, Try.results42, go_sem]; try rfl) rfl ?_
  exact ⟨rfl, HG0.out⟩

set_option maxRecDepth 100000 in
set_option maxHeartbeats 4000000 in
theorem refBlockSize_n (s : Sh) (hs : s.Wf) (j : Int) (w : World) : Calls Try.prog 43 #[s.val, .int .i64 j] w fun e w' => e = .returned (.tuple #[.int .i64 (szV s j s.block s.last), .int .i64 (szE s j : Nat)]) ∧ w.grownBy w' none := by
  have hf := refSize_n s hs j
  generalize szV s j s.seg s.tail = V1 at hf ⊢
  generalize szV s j s.block s.last = V2 at hf ⊢
  generalize szE s j = E at hf ⊢
  clear hs
  obtain ⟨k, n, g, z, sg, t, b, l⟩ := s
  unfold Sh.val at hf ⊢
  have HF := Lib.hid hf
  clear hf
  go_enter Try.func43, Try.ntmps43
  have HP0 := Lib.hid (heap_alloc_new w (.cells #[.int .i64 k, .int .i64 n, .int .i64 g, .int .i64 z, .int .i64 sg, .int .i64 t, .int .i64 b, .int .i64 l] 47))
  go_wp2_with (first | (refine wpList_load_row rfl 47 _ rfl w.heap.size rfl 47 #[.int .i64 k, .int .i64 n, .int .i64 g, .int .i64 z, .int .i64 sg, .int .i64 t, .int .i64 b, .int .i64 l] (0, 0) _ HP0.out Try.underlying47 rfl size_shape ?_))
  refine (HF.out _).mono ?_
  rintro e w1 ⟨rfl, hg⟩
  have HG0 := Lib.hid (grownBy_trans (World.grownBy_alloc w (.cells #[.int .i64 k, .int .i64 n, .int .i64 g, .int .i64 z, .int .i64 sg, .int .i64 t, .int .i64 b, .int .i64 l] 47) none) hg)
  clear hg HP0
  go_wp2_with fail
  (try simp only [Exit.inBlock, Exit.then])
  refine bodyPost_ret (by simp [*, results, Try.results43, go_sem]; try rfl) rfl ?_
  exact ⟨rfl, HG0.out⟩

end Go.Proofs.Ytfboddnpkaiifaa
