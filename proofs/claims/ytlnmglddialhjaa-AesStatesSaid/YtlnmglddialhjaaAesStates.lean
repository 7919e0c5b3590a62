/- AesStates: the walk. -/
import Derived.Test.YtlnmglddialhjaaAesSubs
import Derived.Test.YtlnmglddialhjaaAesRefMix
import Derived.Test.YtlnmglddialhjaaAesEq
import Derived.Test.YtlnmglddialhjaaRegS
namespace Go.Proofs.Ytlnmglddialhjaa
open Go.RowKit

/-- the load of a row of bytes -/
theorem YS.rowB {ops : Array Oper} {S : World → Prop} {o : Oper} {a : Act} (hw : Region.wanted o (yielded ops a.tmps) = true) (ty : TypeId) (x : Operand) (ho : o.op = .load ty x)
    (b : Nat) (hx : a.eval x = .pointer (some ⟨b, 0, none⟩)) (l : List UInt8) (d : TypeDesc) (hS : ∀ w, S w → w.rangeAt b 0 (l.map bval))
    (hu : Try.prog.underlying ty = some d) (hd : d.isRow = true) (hi : (Try.prog.info? ty).map (·.size) = some l.length) : YS Try.prog ops S o (.agg (cellsB l)) a :=
  YS.row hw ty x ho b hx (l.map bval) d hS hu hd (by rw [hi, List.length_map])

set_option maxRecDepth 100000 in
set_option maxHeartbeats 4000000 in
theorem states_walk (s b : List UInt8) (hs : s.length = 16) (hb : b.length = 16) (w : World) :
    Calls Try.prog 5 #[aggB s, aggB b] w fun e w' => e = .returned (.bool true) ∧ w.grownBy w' none := by
  have hi1 : (Try.prog.info? 33).map (·.size) = some s.length := by rw [size_state, hs]
  have hi2 : (Try.prog.info? 27).map (·.size) = some b.length := by rw [size_block, hb]
  have hm1 : Try.prog.eqGuardType Try.prog.depth 33 = false := by kernel_rfl
  have hm2 : Try.prog.eqGuardType Try.prog.depth 27 = false := by kernel_rfl
  have HK : Hid (∀ w1 w2, ((fun w' => w.grownBy w' none ∧ w'.rangeAt w.heap.size 0 (s.map bval) ∧ w'.rangeAt (w.heap.size + 1) 0 (b.map bval)) : World → Prop) w1 → w1.grownBy w2 none → ((fun w' => w.grownBy w' none ∧ w'.rangeAt w.heap.size 0 (s.map bval) ∧ w'.rangeAt (w.heap.size + 1) 0 (b.map bval)) : World → Prop) w2) := fun w1 w2 h hg => keep2 hg h
  obtain ⟨r1, e1⟩ : ∃ r, r = trL b := ⟨_, rfl⟩
  have l1 : r1.length = 16 := by rw [e1]; exact trL_len hb
  have Q1 := Lib.hid (fun w => nsame_state r1 l1 w)
  have A1 : Hid (∀ w, Calls Try.prog 24 #[.agg (cellsB b)] w fun e w' => e = .returned (.agg (cellsB r1)) ∧ w.grownBy w' none) := Lib.hid (fun w => by rw [e1]; exact spread_n _ hb w)
  have B1 : Hid (∀ w, Calls Try.prog 25 #[.agg (cellsB b)] w fun e w' => e = .returned (.agg (cellsB r1)) ∧ w.grownBy w' none) := Lib.hid (fun w => by rw [e1]; exact refSpread_n _ hb w)
  clear e1 l1
  obtain ⟨r2, e2⟩ : ∃ r, r = trL s := ⟨_, rfl⟩
  have l2 : r2.length = 16 := by rw [e2]; exact trL_len hs
  have Q2 := Lib.hid (fun w => nsame_block r2 l2 w)
  have A2 : Hid (∀ w, Calls Try.prog 26 #[.agg (cellsB s)] w fun e w' => e = .returned (.agg (cellsB r2)) ∧ w.grownBy w' none) := Lib.hid (fun w => by rw [e2]; exact gather_n _ hs w)
  have B2 : Hid (∀ w, Calls Try.prog 27 #[.agg (cellsB s)] w fun e w' => e = .returned (.agg (cellsB r2)) ∧ w.grownBy w' none) := Lib.hid (fun w => by rw [e2]; exact refGather_n _ hs w)
  clear e2 l2
  obtain ⟨r3, e3⟩ : ∃ r, r = s.map asub := ⟨_, rfl⟩
  have l3 : r3.length = 16 := by rw [e3]; exact map_len asub hs
  have Q3 := Lib.hid (fun w => nsame_state r3 l3 w)
  have A3 : Hid (∀ w, Calls Try.prog 28 #[.agg (cellsB s)] w fun e w' => e = .returned (.agg (cellsB r3)) ∧ w.grownBy w' none) := Lib.hid (fun w => by rw [e3]; exact subAll_n _ hs w)
  have B3 : Hid (∀ w, Calls Try.prog 29 #[.agg (cellsB s)] w fun e w' => e = .returned (.agg (cellsB r3)) ∧ w.grownBy w' none) := Lib.hid (fun w => by rw [e3]; exact refSubAll_n _ hs w)
  clear e3 l3
  obtain ⟨r4, e4⟩ : ∃ r, r = s.map aunsub := ⟨_, rfl⟩
  have l4 : r4.length = 16 := by rw [e4]; exact map_len aunsub hs
  have Q4 := Lib.hid (fun w => nsame_state r4 l4 w)
  have A4 : Hid (∀ w, Calls Try.prog 30 #[.agg (cellsB s)] w fun e w' => e = .returned (.agg (cellsB r4)) ∧ w.grownBy w' none) := Lib.hid (fun w => by rw [e4]; exact unsubAll_n _ hs w)
  have B4 : Hid (∀ w, Calls Try.prog 31 #[.agg (cellsB s)] w fun e w' => e = .returned (.agg (cellsB r4)) ∧ w.grownBy w' none) := Lib.hid (fun w => by rw [e4]; exact refUnsubAll_n _ hs w)
  clear e4 l4
  obtain ⟨r5, e5⟩ : ∃ r, r = shL s := ⟨_, rfl⟩
  have l5 : r5.length = 16 := by rw [e5]; exact shL_len hs
  have Q5 := Lib.hid (fun w => nsame_state r5 l5 w)
  have A5 : Hid (∀ w, Calls Try.prog 32 #[.agg (cellsB s)] w fun e w' => e = .returned (.agg (cellsB r5)) ∧ w.grownBy w' none) := Lib.hid (fun w => by rw [e5]; exact shift_n _ hs w)
  have B5 : Hid (∀ w, Calls Try.prog 33 #[.agg (cellsB s)] w fun e w' => e = .returned (.agg (cellsB r5)) ∧ w.grownBy w' none) := Lib.hid (fun w => by rw [e5]; exact refShift_n _ hs w)
  clear e5 l5
  obtain ⟨r6, e6⟩ : ∃ r, r = unshL s := ⟨_, rfl⟩
  have l6 : r6.length = 16 := by rw [e6]; exact unshL_len hs
  have Q6 := Lib.hid (fun w => nsame_state r6 l6 w)
  have A6 : Hid (∀ w, Calls Try.prog 34 #[.agg (cellsB s)] w fun e w' => e = .returned (.agg (cellsB r6)) ∧ w.grownBy w' none) := Lib.hid (fun w => by rw [e6]; exact unshift_n _ hs w)
  have B6 : Hid (∀ w, Calls Try.prog 35 #[.agg (cellsB s)] w fun e w' => e = .returned (.agg (cellsB r6)) ∧ w.grownBy w' none) := Lib.hid (fun w => by rw [e6]; exact refUnshift_n _ hs w)
  clear e6 l6
  obtain ⟨r7, e7⟩ : ∃ r, r = mixL [2, 3, 1, 1] s := ⟨_, rfl⟩
  have l7 : r7.length = 16 := by rw [e7]; exact mixL_len rfl hs
  have Q7 := Lib.hid (fun w => same_state r7 l7 w)
  have A7 : Hid (∀ w, Calls Try.prog 36 #[.agg (cellsB s)] w fun e w' => e = .returned (.agg (cellsB r7)) ∧ w.grownBy w' none) := Lib.hid (fun w => by rw [e7]; exact mix_n _ hs w)
  have B7 : Hid (∀ w, Calls Try.prog 37 #[.agg (cellsB s)] w fun e w' => e = .returned (.agg (cellsB r7)) ∧ w.grownBy w' none) := Lib.hid (fun w => by rw [e7]; exact refMix_n _ hs w)
  clear e7 l7
  obtain ⟨r8, e8⟩ : ∃ r, r = mixL [14, 11, 13, 9] s := ⟨_, rfl⟩
  have l8 : r8.length = 16 := by rw [e8]; exact mixL_len rfl hs
  have Q8 := Lib.hid (fun w => same_state r8 l8 w)
  have A8 : Hid (∀ w, Calls Try.prog 38 #[.agg (cellsB s)] w fun e w' => e = .returned (.agg (cellsB r8)) ∧ w.grownBy w' none) := Lib.hid (fun w => by rw [e8]; exact unmix_n _ hs w)
  have B8 : Hid (∀ w, Calls Try.prog 39 #[.agg (cellsB s)] w fun e w' => e = .returned (.agg (cellsB r8)) ∧ w.grownBy w' none) := Lib.hid (fun w => by rw [e8]; exact refUnmix_n _ hs w)
  clear e8 l8
  obtain ⟨h1, h2, h3⟩ := two w s b 33 27
  have HS0 := Lib.hid (And.intro h3 (And.intro h1.range h2.range))
  clear h1 h2 h3
  unfold aggB
  go_enter Try.func5, Try.ntmps5
  go_upto_region 1 with fail
  refine wp_regionS (fun w' => w.grownBy w' none ∧ w'.rangeAt w.heap.size 0 (s.map bval) ∧ w'.rangeAt (w.heap.size + 1) 0 (b.map bval)) (by kernel_rfl) (keep2d HS0.out) ?_
  refine wpS_take 0 (oi := { dst := some 5, op := Op.load 27 (Operand.tmp 3), type := 27, pos := "law.go:20", after := #[], guard := none }) rfl (by kernel_rfl) (by kernel_rfl) (by kernel_rfl) (fun _ _ _ h => h) (YS.rowB (by rfl) _ _ rfl _ rfl b _ (fun _ h => h.2.2) Try.underlying27 rfl hi2) ?_
  simp only [Act.put, List.setIfInBounds_toArray, List.set_cons_zero, List.set_cons_succ]
  refine wpS_take 1 (oi := { dst := some 6, op := Op.call { callee := Callee.value (Operand.func 24), args := #[Operand.tmp 5], argTypes := #[27] }, type := 33, pos := "law.go:20", after := #[{ on := 0, ground := Ground.data }], guard := none }) rfl (by kernel_rfl) (by kernel_rfl) (by kernel_rfl) (fun _ _ _ h => h) (YS.grow (f := 24) (args := #[.agg (cellsB b)]) (by rfl) (fun w => by go_simp) HK.out A1.out) ?_
  simp only [Act.put, List.setIfInBounds_toArray, List.set_cons_zero, List.set_cons_succ]
  refine wpS_take 2 (oi := { dst := some 7, op := Op.load 27 (Operand.tmp 3), type := 27, pos := "law.go:20", after := #[], guard := none }) rfl (by kernel_rfl) (by kernel_rfl) (by kernel_rfl) (fun _ _ _ h => h) (YS.rowB (by rfl) _ _ rfl _ rfl b _ (fun _ h => h.2.2) Try.underlying27 rfl hi2) ?_
  simp only [Act.put, List.setIfInBounds_toArray, List.set_cons_zero, List.set_cons_succ]
  refine wpS_take 3 (oi := { dst := some 8, op := Op.call { callee := Callee.value (Operand.func 25), args := #[Operand.tmp 7], argTypes := #[27] }, type := 33, pos := "law.go:20", after := #[{ on := 2, ground := Ground.data }, { on := 1, ground := Ground.chain }], guard := none }) rfl (by kernel_rfl) (by kernel_rfl) (by kernel_rfl) (fun _ _ _ h => h) (YS.grow (f := 25) (args := #[.agg (cellsB b)]) (by rfl) (fun w => by go_simp) HK.out B1.out) ?_
  simp only [Act.put, List.setIfInBounds_toArray, List.set_cons_zero, List.set_cons_succ]
  refine wpS_take 4 (v := .bool false) (oi := { dst := some 9, op := Op.binOp BinOp.neq 33 (Operand.tmp 6) (Operand.tmp 8) 33, type := 4, pos := "law.go:20", after := #[{ on := 1, ground := Ground.data }, { on := 3, ground := Ground.data }], guard := none }) rfl (by kernel_rfl) (by kernel_rfl) (by kernel_rfl) (fun _ _ _ h => h) (YS.val (by rfl) (fun w _ => by have q := Q1.out; go_simp)) ?_
  simp only [Act.put, List.setIfInBounds_toArray, List.set_cons_zero, List.set_cons_succ]
  refine wpS_take 5 (oi := { dst := some 10, op := Op.move (Operand.tmp 9), type := 4, pos := "law.go:20", after := #[{ on := 4, ground := Ground.data }, { on := 3, ground := Ground.chain }], guard := none }) rfl (by kernel_rfl) (by kernel_rfl) (by kernel_rfl) (fun _ _ _ h => h) (YS.val (by rfl) (fun _ _ => rfl)) ?_
  simp only [Act.put, List.setIfInBounds_toArray, List.set_cons_zero, List.set_cons_succ]
  refine wpS_take 6 (oi := { dst := some 11, op := Op.load 33 (Operand.tmp 2), type := 33, pos := "law.go:20", after := #[{ on := 5, ground := Ground.guard }], guard := some (5, false) }) rfl (by kernel_rfl) (by kernel_rfl) (by kernel_rfl) (fun _ _ _ h => h) (YS.rowB (by rfl) _ _ rfl _ rfl s _ (fun _ h => h.2.1) Try.underlying33 rfl hi1) ?_
  simp only [Act.put, List.setIfInBounds_toArray, List.set_cons_zero, List.set_cons_succ]
  refine wpS_take 7 (oi := { dst := some 12, op := Op.call { callee := Callee.value (Operand.func 26), args := #[Operand.tmp 11], argTypes := #[33] }, type := 27, pos := "law.go:20", after := #[{ on := 6, ground := Ground.data }, { on := 5, ground := Ground.chain }, { on := 5, ground := Ground.guard }], guard := some (5, false) }) rfl (by kernel_rfl) (by kernel_rfl) (by kernel_rfl) (fun _ _ _ h => h) (YS.grow (f := 26) (args := #[.agg (cellsB s)]) (by rfl) (fun w => by go_simp) HK.out A2.out) ?_
  simp only [Act.put, List.setIfInBounds_toArray, List.set_cons_zero, List.set_cons_succ]
  refine wpS_take 8 (oi := { dst := some 13, op := Op.load 33 (Operand.tmp 2), type := 33, pos := "law.go:20", after := #[{ on := 5, ground := Ground.guard }], guard := some (5, false) }) rfl (by kernel_rfl) (by kernel_rfl) (by kernel_rfl) (fun _ _ _ h => h) (YS.rowB (by rfl) _ _ rfl _ rfl s _ (fun _ h => h.2.1) Try.underlying33 rfl hi1) ?_
  simp only [Act.put, List.setIfInBounds_toArray, List.set_cons_zero, List.set_cons_succ]
  refine wpS_take 9 (oi := { dst := some 14, op := Op.call { callee := Callee.value (Operand.func 27), args := #[Operand.tmp 13], argTypes := #[33] }, type := 27, pos := "law.go:20", after := #[{ on := 8, ground := Ground.data }, { on := 7, ground := Ground.chain }, { on := 5, ground := Ground.guard }], guard := some (5, false) }) rfl (by kernel_rfl) (by kernel_rfl) (by kernel_rfl) (fun _ _ _ h => h) (YS.grow (f := 27) (args := #[.agg (cellsB s)]) (by rfl) (fun w => by go_simp) HK.out B2.out) ?_
  simp only [Act.put, List.setIfInBounds_toArray, List.set_cons_zero, List.set_cons_succ]
  refine wpS_take 10 (v := .bool false) (oi := { dst := some 15, op := Op.binOp BinOp.neq 27 (Operand.tmp 12) (Operand.tmp 14) 27, type := 4, pos := "law.go:20", after := #[{ on := 7, ground := Ground.data }, { on := 9, ground := Ground.data }, { on := 5, ground := Ground.guard }], guard := some (5, false) }) rfl (by kernel_rfl) (by kernel_rfl) (by kernel_rfl) (fun _ _ _ h => h) (YS.val (by rfl) (fun w _ => by have q := Q2.out; go_simp)) ?_
  simp only [Act.put, List.setIfInBounds_toArray, List.set_cons_zero, List.set_cons_succ]
  refine wpS_take 11 (oi := { dst := some 16, op := Op.pick (Operand.tmp 10) (Operand.const (Value.bool true)) (Operand.tmp 15), type := 4, pos := "law.go:20", after := #[{ on := 5, ground := Ground.data }, { on := 10, ground := Ground.data }], guard := none }) rfl (by kernel_rfl) (by kernel_rfl) (by kernel_rfl) (fun _ _ _ h => h) (YS.val (by rfl) (fun _ _ => rfl)) ?_
  simp only [Act.put, List.setIfInBounds_toArray, List.set_cons_zero, List.set_cons_succ]
  refine wpS_done (by kernel_rfl) (fun wc hst => ?_) _
  clear HS0
  have HS0 := Lib.hid hst
  clear hst
  go_upto_region 3 with fail
  refine wp_regionS (fun w' => w.grownBy w' none ∧ w'.rangeAt w.heap.size 0 (s.map bval) ∧ w'.rangeAt (w.heap.size + 1) 0 (b.map bval)) (by kernel_rfl) (keep2d HS0.out) ?_
  refine wpS_take 0 (oi := { dst := some 17, op := Op.load 33 (Operand.tmp 2), type := 33, pos := "law.go:23", after := #[], guard := none }) rfl (by kernel_rfl) (by kernel_rfl) (by kernel_rfl) (fun _ _ _ h => h) (YS.rowB (by rfl) _ _ rfl _ rfl s _ (fun _ h => h.2.1) Try.underlying33 rfl hi1) ?_
  simp only [Act.put, List.setIfInBounds_toArray, List.set_cons_zero, List.set_cons_succ]
  refine wpS_take 1 (oi := { dst := some 18, op := Op.call { callee := Callee.value (Operand.func 28), args := #[Operand.tmp 17], argTypes := #[33] }, type := 33, pos := "law.go:23", after := #[{ on := 0, ground := Ground.data }], guard := none }) rfl (by kernel_rfl) (by kernel_rfl) (by kernel_rfl) (fun _ _ _ h => h) (YS.grow (f := 28) (args := #[.agg (cellsB s)]) (by rfl) (fun w => by go_simp) HK.out A3.out) ?_
  simp only [Act.put, List.setIfInBounds_toArray, List.set_cons_zero, List.set_cons_succ]
  refine wpS_take 2 (oi := { dst := some 19, op := Op.load 33 (Operand.tmp 2), type := 33, pos := "law.go:23", after := #[], guard := none }) rfl (by kernel_rfl) (by kernel_rfl) (by kernel_rfl) (fun _ _ _ h => h) (YS.rowB (by rfl) _ _ rfl _ rfl s _ (fun _ h => h.2.1) Try.underlying33 rfl hi1) ?_
  simp only [Act.put, List.setIfInBounds_toArray, List.set_cons_zero, List.set_cons_succ]
  refine wpS_take 3 (oi := { dst := some 20, op := Op.call { callee := Callee.value (Operand.func 29), args := #[Operand.tmp 19], argTypes := #[33] }, type := 33, pos := "law.go:23", after := #[{ on := 2, ground := Ground.data }, { on := 1, ground := Ground.chain }], guard := none }) rfl (by kernel_rfl) (by kernel_rfl) (by kernel_rfl) (fun _ _ _ h => h) (YS.grow (f := 29) (args := #[.agg (cellsB s)]) (by rfl) (fun w => by go_simp) HK.out B3.out) ?_
  simp only [Act.put, List.setIfInBounds_toArray, List.set_cons_zero, List.set_cons_succ]
  refine wpS_take 4 (v := .bool false) (oi := { dst := some 21, op := Op.binOp BinOp.neq 33 (Operand.tmp 18) (Operand.tmp 20) 33, type := 4, pos := "law.go:23", after := #[{ on := 1, ground := Ground.data }, { on := 3, ground := Ground.data }], guard := none }) rfl (by kernel_rfl) (by kernel_rfl) (by kernel_rfl) (fun _ _ _ h => h) (YS.val (by rfl) (fun w _ => by have q := Q3.out; go_simp)) ?_
  simp only [Act.put, List.setIfInBounds_toArray, List.set_cons_zero, List.set_cons_succ]
  refine wpS_take 5 (oi := { dst := some 22, op := Op.move (Operand.tmp 21), type := 4, pos := "law.go:23", after := #[{ on := 4, ground := Ground.data }, { on := 3, ground := Ground.chain }], guard := none }) rfl (by kernel_rfl) (by kernel_rfl) (by kernel_rfl) (fun _ _ _ h => h) (YS.val (by rfl) (fun _ _ => rfl)) ?_
  simp only [Act.put, List.setIfInBounds_toArray, List.set_cons_zero, List.set_cons_succ]
  refine wpS_take 6 (oi := { dst := some 23, op := Op.load 33 (Operand.tmp 2), type := 33, pos := "law.go:23", after := #[{ on := 5, ground := Ground.guard }], guard := some (5, false) }) rfl (by kernel_rfl) (by kernel_rfl) (by kernel_rfl) (fun _ _ _ h => h) (YS.rowB (by rfl) _ _ rfl _ rfl s _ (fun _ h => h.2.1) Try.underlying33 rfl hi1) ?_
  simp only [Act.put, List.setIfInBounds_toArray, List.set_cons_zero, List.set_cons_succ]
  refine wpS_take 7 (oi := { dst := some 24, op := Op.call { callee := Callee.value (Operand.func 30), args := #[Operand.tmp 23], argTypes := #[33] }, type := 33, pos := "law.go:23", after := #[{ on := 6, ground := Ground.data }, { on := 5, ground := Ground.chain }, { on := 5, ground := Ground.guard }], guard := some (5, false) }) rfl (by kernel_rfl) (by kernel_rfl) (by kernel_rfl) (fun _ _ _ h => h) (YS.grow (f := 30) (args := #[.agg (cellsB s)]) (by rfl) (fun w => by go_simp) HK.out A4.out) ?_
  simp only [Act.put, List.setIfInBounds_toArray, List.set_cons_zero, List.set_cons_succ]
  refine wpS_take 8 (oi := { dst := some 25, op := Op.load 33 (Operand.tmp 2), type := 33, pos := "law.go:23", after := #[{ on := 5, ground := Ground.guard }], guard := some (5, false) }) rfl (by kernel_rfl) (by kernel_rfl) (by kernel_rfl) (fun _ _ _ h => h) (YS.rowB (by rfl) _ _ rfl _ rfl s _ (fun _ h => h.2.1) Try.underlying33 rfl hi1) ?_
  simp only [Act.put, List.setIfInBounds_toArray, List.set_cons_zero, List.set_cons_succ]
  refine wpS_take 9 (oi := { dst := some 26, op := Op.call { callee := Callee.value (Operand.func 31), args := #[Operand.tmp 25], argTypes := #[33] }, type := 33, pos := "law.go:23", after := #[{ on := 8, ground := Ground.data }, { on := 7, ground := Ground.chain }, { on := 5, ground := Ground.guard }], guard := some (5, false) }) rfl (by kernel_rfl) (by kernel_rfl) (by kernel_rfl) (fun _ _ _ h => h) (YS.grow (f := 31) (args := #[.agg (cellsB s)]) (by rfl) (fun w => by go_simp) HK.out B4.out) ?_
  simp only [Act.put, List.setIfInBounds_toArray, List.set_cons_zero, List.set_cons_succ]
  refine wpS_take 10 (v := .bool false) (oi := { dst := some 27, op := Op.binOp BinOp.neq 33 (Operand.tmp 24) (Operand.tmp 26) 33, type := 4, pos := "law.go:23", after := #[{ on := 7, ground := Ground.data }, { on := 9, ground := Ground.data }, { on := 5, ground := Ground.guard }], guard := some (5, false) }) rfl (by kernel_rfl) (by kernel_rfl) (by kernel_rfl) (fun _ _ _ h => h) (YS.val (by rfl) (fun w _ => by have q := Q4.out; go_simp)) ?_
  simp only [Act.put, List.setIfInBounds_toArray, List.set_cons_zero, List.set_cons_succ]
  refine wpS_take 11 (oi := { dst := some 28, op := Op.pick (Operand.tmp 22) (Operand.const (Value.bool true)) (Operand.tmp 27), type := 4, pos := "law.go:23", after := #[{ on := 5, ground := Ground.data }, { on := 10, ground := Ground.data }], guard := none }) rfl (by kernel_rfl) (by kernel_rfl) (by kernel_rfl) (fun _ _ _ h => h) (YS.val (by rfl) (fun _ _ => rfl)) ?_
  simp only [Act.put, List.setIfInBounds_toArray, List.set_cons_zero, List.set_cons_succ]
  refine wpS_done (by kernel_rfl) (fun wc hst => ?_) _
  clear HS0
  have HS0 := Lib.hid hst
  clear hst
  go_upto_region 5 with fail
  refine wp_regionS (fun w' => w.grownBy w' none ∧ w'.rangeAt w.heap.size 0 (s.map bval) ∧ w'.rangeAt (w.heap.size + 1) 0 (b.map bval)) (by kernel_rfl) (keep2d HS0.out) ?_
  refine wpS_take 0 (oi := { dst := some 29, op := Op.load 33 (Operand.tmp 2), type := 33, pos := "law.go:26", after := #[], guard := none }) rfl (by kernel_rfl) (by kernel_rfl) (by kernel_rfl) (fun _ _ _ h => h) (YS.rowB (by rfl) _ _ rfl _ rfl s _ (fun _ h => h.2.1) Try.underlying33 rfl hi1) ?_
  simp only [Act.put, List.setIfInBounds_toArray, List.set_cons_zero, List.set_cons_succ]
  refine wpS_take 1 (oi := { dst := some 30, op := Op.call { callee := Callee.value (Operand.func 32), args := #[Operand.tmp 29], argTypes := #[33] }, type := 33, pos := "law.go:26", after := #[{ on := 0, ground := Ground.data }], guard := none }) rfl (by kernel_rfl) (by kernel_rfl) (by kernel_rfl) (fun _ _ _ h => h) (YS.grow (f := 32) (args := #[.agg (cellsB s)]) (by rfl) (fun w => by go_simp) HK.out A5.out) ?_
  simp only [Act.put, List.setIfInBounds_toArray, List.set_cons_zero, List.set_cons_succ]
  refine wpS_take 2 (oi := { dst := some 31, op := Op.load 33 (Operand.tmp 2), type := 33, pos := "law.go:26", after := #[], guard := none }) rfl (by kernel_rfl) (by kernel_rfl) (by kernel_rfl) (fun _ _ _ h => h) (YS.rowB (by rfl) _ _ rfl _ rfl s _ (fun _ h => h.2.1) Try.underlying33 rfl hi1) ?_
  simp only [Act.put, List.setIfInBounds_toArray, List.set_cons_zero, List.set_cons_succ]
  refine wpS_take 3 (oi := { dst := some 32, op := Op.call { callee := Callee.value (Operand.func 33), args := #[Operand.tmp 31], argTypes := #[33] }, type := 33, pos := "law.go:26", after := #[{ on := 2, ground := Ground.data }, { on := 1, ground := Ground.chain }], guard := none }) rfl (by kernel_rfl) (by kernel_rfl) (by kernel_rfl) (fun _ _ _ h => h) (YS.grow (f := 33) (args := #[.agg (cellsB s)]) (by rfl) (fun w => by go_simp) HK.out B5.out) ?_
  simp only [Act.put, List.setIfInBounds_toArray, List.set_cons_zero, List.set_cons_succ]
  refine wpS_take 4 (v := .bool false) (oi := { dst := some 33, op := Op.binOp BinOp.neq 33 (Operand.tmp 30) (Operand.tmp 32) 33, type := 4, pos := "law.go:26", after := #[{ on := 1, ground := Ground.data }, { on := 3, ground := Ground.data }], guard := none }) rfl (by kernel_rfl) (by kernel_rfl) (by kernel_rfl) (fun _ _ _ h => h) (YS.val (by rfl) (fun w _ => by have q := Q5.out; go_simp)) ?_
  simp only [Act.put, List.setIfInBounds_toArray, List.set_cons_zero, List.set_cons_succ]
  refine wpS_take 5 (oi := { dst := some 34, op := Op.move (Operand.tmp 33), type := 4, pos := "law.go:26", after := #[{ on := 4, ground := Ground.data }, { on := 3, ground := Ground.chain }], guard := none }) rfl (by kernel_rfl) (by kernel_rfl) (by kernel_rfl) (fun _ _ _ h => h) (YS.val (by rfl) (fun _ _ => rfl)) ?_
  simp only [Act.put, List.setIfInBounds_toArray, List.set_cons_zero, List.set_cons_succ]
  refine wpS_take 6 (oi := { dst := some 35, op := Op.load 33 (Operand.tmp 2), type := 33, pos := "law.go:26", after := #[{ on := 5, ground := Ground.guard }], guard := some (5, false) }) rfl (by kernel_rfl) (by kernel_rfl) (by kernel_rfl) (fun _ _ _ h => h) (YS.rowB (by rfl) _ _ rfl _ rfl s _ (fun _ h => h.2.1) Try.underlying33 rfl hi1) ?_
  simp only [Act.put, List.setIfInBounds_toArray, List.set_cons_zero, List.set_cons_succ]
  refine wpS_take 7 (oi := { dst := some 36, op := Op.call { callee := Callee.value (Operand.func 34), args := #[Operand.tmp 35], argTypes := #[33] }, type := 33, pos := "law.go:26", after := #[{ on := 6, ground := Ground.data }, { on := 5, ground := Ground.chain }, { on := 5, ground := Ground.guard }], guard := some (5, false) }) rfl (by kernel_rfl) (by kernel_rfl) (by kernel_rfl) (fun _ _ _ h => h) (YS.grow (f := 34) (args := #[.agg (cellsB s)]) (by rfl) (fun w => by go_simp) HK.out A6.out) ?_
  simp only [Act.put, List.setIfInBounds_toArray, List.set_cons_zero, List.set_cons_succ]
  refine wpS_take 8 (oi := { dst := some 37, op := Op.load 33 (Operand.tmp 2), type := 33, pos := "law.go:26", after := #[{ on := 5, ground := Ground.guard }], guard := some (5, false) }) rfl (by kernel_rfl) (by kernel_rfl) (by kernel_rfl) (fun _ _ _ h => h) (YS.rowB (by rfl) _ _ rfl _ rfl s _ (fun _ h => h.2.1) Try.underlying33 rfl hi1) ?_
  simp only [Act.put, List.setIfInBounds_toArray, List.set_cons_zero, List.set_cons_succ]
  refine wpS_take 9 (oi := { dst := some 38, op := Op.call { callee := Callee.value (Operand.func 35), args := #[Operand.tmp 37], argTypes := #[33] }, type := 33, pos := "law.go:26", after := #[{ on := 8, ground := Ground.data }, { on := 7, ground := Ground.chain }, { on := 5, ground := Ground.guard }], guard := some (5, false) }) rfl (by kernel_rfl) (by kernel_rfl) (by kernel_rfl) (fun _ _ _ h => h) (YS.grow (f := 35) (args := #[.agg (cellsB s)]) (by rfl) (fun w => by go_simp) HK.out B6.out) ?_
  simp only [Act.put, List.setIfInBounds_toArray, List.set_cons_zero, List.set_cons_succ]
  refine wpS_take 10 (v := .bool false) (oi := { dst := some 39, op := Op.binOp BinOp.neq 33 (Operand.tmp 36) (Operand.tmp 38) 33, type := 4, pos := "law.go:26", after := #[{ on := 7, ground := Ground.data }, { on := 9, ground := Ground.data }, { on := 5, ground := Ground.guard }], guard := some (5, false) }) rfl (by kernel_rfl) (by kernel_rfl) (by kernel_rfl) (fun _ _ _ h => h) (YS.val (by rfl) (fun w _ => by have q := Q6.out; go_simp)) ?_
  simp only [Act.put, List.setIfInBounds_toArray, List.set_cons_zero, List.set_cons_succ]
  refine wpS_take 11 (oi := { dst := some 40, op := Op.pick (Operand.tmp 34) (Operand.const (Value.bool true)) (Operand.tmp 39), type := 4, pos := "law.go:26", after := #[{ on := 5, ground := Ground.data }, { on := 10, ground := Ground.data }], guard := none }) rfl (by kernel_rfl) (by kernel_rfl) (by kernel_rfl) (fun _ _ _ h => h) (YS.val (by rfl) (fun _ _ => rfl)) ?_
  simp only [Act.put, List.setIfInBounds_toArray, List.set_cons_zero, List.set_cons_succ]
  refine wpS_done (by kernel_rfl) (fun wc hst => ?_) _
  clear HS0
  have HS0 := Lib.hid hst
  clear hst
  go_upto_region 7 with fail
  refine wp_regionS (fun w' => w.grownBy w' none ∧ w'.rangeAt w.heap.size 0 (s.map bval) ∧ w'.rangeAt (w.heap.size + 1) 0 (b.map bval)) (by kernel_rfl) (keep2d HS0.out) ?_
  refine wpS_take 0 (oi := { dst := some 41, op := Op.load 33 (Operand.tmp 2), type := 33, pos := "law.go:29", after := #[], guard := none }) rfl (by kernel_rfl) (by kernel_rfl) (by kernel_rfl) (fun _ _ _ h => h) (YS.rowB (by rfl) _ _ rfl _ rfl s _ (fun _ h => h.2.1) Try.underlying33 rfl hi1) ?_
  simp only [Act.put, List.setIfInBounds_toArray, List.set_cons_zero, List.set_cons_succ]
  refine wpS_take 1 (oi := { dst := some 42, op := Op.call { callee := Callee.value (Operand.func 36), args := #[Operand.tmp 41], argTypes := #[33] }, type := 33, pos := "law.go:29", after := #[{ on := 0, ground := Ground.data }], guard := none }) rfl (by kernel_rfl) (by kernel_rfl) (by kernel_rfl) (fun _ _ _ h => h) (YS.grow (f := 36) (args := #[.agg (cellsB s)]) (by rfl) (fun w => by go_simp) HK.out A7.out) ?_
  simp only [Act.put, List.setIfInBounds_toArray, List.set_cons_zero, List.set_cons_succ]
  refine wpS_take 2 (oi := { dst := some 43, op := Op.load 33 (Operand.tmp 2), type := 33, pos := "law.go:29", after := #[], guard := none }) rfl (by kernel_rfl) (by kernel_rfl) (by kernel_rfl) (fun _ _ _ h => h) (YS.rowB (by rfl) _ _ rfl _ rfl s _ (fun _ h => h.2.1) Try.underlying33 rfl hi1) ?_
  simp only [Act.put, List.setIfInBounds_toArray, List.set_cons_zero, List.set_cons_succ]
  refine wpS_take 3 (oi := { dst := some 44, op := Op.call { callee := Callee.value (Operand.func 37), args := #[Operand.tmp 43], argTypes := #[33] }, type := 33, pos := "law.go:29", after := #[{ on := 2, ground := Ground.data }, { on := 1, ground := Ground.chain }], guard := none }) rfl (by kernel_rfl) (by kernel_rfl) (by kernel_rfl) (fun _ _ _ h => h) (YS.grow (f := 37) (args := #[.agg (cellsB s)]) (by rfl) (fun w => by go_simp) HK.out B7.out) ?_
  simp only [Act.put, List.setIfInBounds_toArray, List.set_cons_zero, List.set_cons_succ]
  refine wpS_take 4 (v := .bool true) (oi := { dst := some 45, op := Op.binOp BinOp.eql 33 (Operand.tmp 42) (Operand.tmp 44) 33, type := 4, pos := "law.go:29", after := #[{ on := 1, ground := Ground.data }, { on := 3, ground := Ground.data }], guard := none }) rfl (by kernel_rfl) (by kernel_rfl) (by kernel_rfl) (fun _ _ _ h => h) (YS.val (by rfl) (fun w _ => by have q := Q7.out; go_simp)) ?_
  simp only [Act.put, List.setIfInBounds_toArray, List.set_cons_zero, List.set_cons_succ]
  refine wpS_take 5 (oi := { dst := some 46, op := Op.move (Operand.tmp 45), type := 4, pos := "law.go:29", after := #[{ on := 4, ground := Ground.data }, { on := 3, ground := Ground.chain }], guard := none }) rfl (by kernel_rfl) (by kernel_rfl) (by kernel_rfl) (fun _ _ _ h => h) (YS.val (by rfl) (fun _ _ => rfl)) ?_
  simp only [Act.put, List.setIfInBounds_toArray, List.set_cons_zero, List.set_cons_succ]
  refine wpS_take 6 (oi := { dst := some 47, op := Op.load 33 (Operand.tmp 2), type := 33, pos := "law.go:29", after := #[{ on := 5, ground := Ground.guard }], guard := some (5, true) }) rfl (by kernel_rfl) (by kernel_rfl) (by kernel_rfl) (fun _ _ _ h => h) (YS.rowB (by rfl) _ _ rfl _ rfl s _ (fun _ h => h.2.1) Try.underlying33 rfl hi1) ?_
  simp only [Act.put, List.setIfInBounds_toArray, List.set_cons_zero, List.set_cons_succ]
  refine wpS_take 7 (oi := { dst := some 48, op := Op.call { callee := Callee.value (Operand.func 38), args := #[Operand.tmp 47], argTypes := #[33] }, type := 33, pos := "law.go:29", after := #[{ on := 6, ground := Ground.data }, { on := 5, ground := Ground.chain }, { on := 5, ground := Ground.guard }], guard := some (5, true) }) rfl (by kernel_rfl) (by kernel_rfl) (by kernel_rfl) (fun _ _ _ h => h) (YS.grow (f := 38) (args := #[.agg (cellsB s)]) (by rfl) (fun w => by go_simp) HK.out A8.out) ?_
  simp only [Act.put, List.setIfInBounds_toArray, List.set_cons_zero, List.set_cons_succ]
  refine wpS_take 8 (oi := { dst := some 49, op := Op.load 33 (Operand.tmp 2), type := 33, pos := "law.go:29", after := #[{ on := 5, ground := Ground.guard }], guard := some (5, true) }) rfl (by kernel_rfl) (by kernel_rfl) (by kernel_rfl) (fun _ _ _ h => h) (YS.rowB (by rfl) _ _ rfl _ rfl s _ (fun _ h => h.2.1) Try.underlying33 rfl hi1) ?_
  simp only [Act.put, List.setIfInBounds_toArray, List.set_cons_zero, List.set_cons_succ]
  refine wpS_take 9 (oi := { dst := some 50, op := Op.call { callee := Callee.value (Operand.func 39), args := #[Operand.tmp 49], argTypes := #[33] }, type := 33, pos := "law.go:29", after := #[{ on := 8, ground := Ground.data }, { on := 7, ground := Ground.chain }, { on := 5, ground := Ground.guard }], guard := some (5, true) }) rfl (by kernel_rfl) (by kernel_rfl) (by kernel_rfl) (fun _ _ _ h => h) (YS.grow (f := 39) (args := #[.agg (cellsB s)]) (by rfl) (fun w => by go_simp) HK.out B8.out) ?_
  simp only [Act.put, List.setIfInBounds_toArray, List.set_cons_zero, List.set_cons_succ]
  refine wpS_take 10 (v := .bool true) (oi := { dst := some 51, op := Op.binOp BinOp.eql 33 (Operand.tmp 48) (Operand.tmp 50) 33, type := 4, pos := "law.go:29", after := #[{ on := 7, ground := Ground.data }, { on := 9, ground := Ground.data }, { on := 5, ground := Ground.guard }], guard := some (5, true) }) rfl (by kernel_rfl) (by kernel_rfl) (by kernel_rfl) (fun _ _ _ h => h) (YS.val (by rfl) (fun w _ => by have q := Q8.out; go_simp)) ?_
  simp only [Act.put, List.setIfInBounds_toArray, List.set_cons_zero, List.set_cons_succ]
  refine wpS_take 11 (oi := { dst := some 52, op := Op.pick (Operand.tmp 46) (Operand.tmp 51) (Operand.const (Value.bool false)), type := 4, pos := "law.go:29", after := #[{ on := 5, ground := Ground.data }, { on := 10, ground := Ground.data }], guard := none }) rfl (by kernel_rfl) (by kernel_rfl) (by kernel_rfl) (fun _ _ _ h => h) (YS.val (by rfl) (fun _ _ => rfl)) ?_
  simp only [Act.put, List.setIfInBounds_toArray, List.set_cons_zero, List.set_cons_succ]
  refine wpS_take 12 (oi := { dst := some 4, op := Op.assign (Operand.tmp 52), type := 4, pos := "law.go:29", after := #[{ on := 11, ground := Ground.data }, { on := 9, ground := Ground.chain }, { on := 0, ground := Ground.phase }, { on := 1, ground := Ground.phase }, { on := 2, ground := Ground.phase }, { on := 3, ground := Ground.phase }, { on := 4, ground := Ground.phase }, { on := 5, ground := Ground.phase }, { on := 6, ground := Ground.phase }, { on := 7, ground := Ground.phase }, { on := 8, ground := Ground.phase }, { on := 9, ground := Ground.phase }, { on := 10, ground := Ground.phase }, { on := 11, ground := Ground.phase }], guard := none }) rfl (by kernel_rfl) (by kernel_rfl) (by kernel_rfl) (fun _ _ _ h => h) (YS.val (by rfl) (fun _ _ => rfl)) ?_
  simp only [Act.put, List.setIfInBounds_toArray, List.set_cons_zero, List.set_cons_succ]
  refine wpS_done (by kernel_rfl) (fun wc hst => ?_) _
  clear HS0
  have HS0 := Lib.hid hst
  clear hst
  go_wp2_with fail
  go_ret
  exact ⟨rfl, HS0.out.1⟩

end Go.Proofs.Ytlnmglddialhjaa
