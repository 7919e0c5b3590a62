/- AesKeys: Schedule, and the walk of the law. -/
import Derived.Test.YtlnmglddialhjaaAesRefSched
import Derived.Test.YtlnmglddialhjaaRegS
namespace Go.Proofs.Ytlnmglddialhjaa
open Go.RowKit

theorem size_key : (Try.prog.info? 26).map (·.size) = some 16 := by kernel_rfl
theorem twoC (w : World) (c1 c2 : List UInt8) (C1 C2 : Array Value) (t1 t2 : TypeId) (e1 : C1 = cellsB c1) (e2 : C2 = cellsB c2) :
    Blk ((w.alloc (.cells C1 t1)).alloc (.cells C2 t2)) w.heap.size t1 c1 ∧ Blk ((w.alloc (.cells C1 t1)).alloc (.cells C2 t2)) (w.heap.size + 1) t2 c2 ∧ w.grownBy ((w.alloc (.cells C1 t1)).alloc (.cells C2 t2)) none := by
  subst e1 e2
  exact two w c1 c2 t1 t2

set_option maxRecDepth 100000 in
set_option maxHeartbeats 1000000 in
theorem scheduleAll_n (k : List UInt8) (hk : k.length = 16) (w : World) : Calls Try.prog 22 #[aggB k] w fun e w' => e = .returned (aggB (keysL k)) ∧ w.grownBy w' none := by
  have hcs := fun (w1 : World) (g : Nat) (h : w1.rangeAt g 0 (tabS.map bval)) (hl : g < w1.heap.size) => schedule_n k hk g 0 w1 h hl
  obtain ⟨kk, hkk⟩ : ∃ kk, kk = keysL k := ⟨_, rfl⟩
  have hkl : kk.length = 176 := by rw [hkk]; exact keysL_len k
  obtain ⟨z, hz⟩ : ∃ z, z = z176 := ⟨_, rfl⟩
  have hzl : z.length = 176 := by rw [hz]; exact z176_len
  have e28 : Try.zeroCells28 = cellsB z := by rw [hz]; exact zero28
  rw [← hkk] at hcs
  rw [← hkk]
  have HCS := Lib.hid hcs
  clear hkk hz hcs
  unfold aggB
  obtain ⟨hb, hr, hg⟩ := twoC w k z (cellsB k) Try.zeroCells28 26 28 rfl e28
  have HR := Lib.hid hr
  have HG := Lib.hid hg
  have HB := Lib.hid hb
  clear hr hg hb e28
  go_enter Try.func22, Try.ntmps22
  go_wp2_with fail
  refine (subs_n _).mono ?_
  rintro e w1 ⟨rfl, hg⟩
  have hn := Blk.new w1 57 z256
  rw [← zero_tab] at hn
  have gn := World.grownBy_alloc w1 (.cells Try.zeroCells57 57) none
  have hlt1 := (HR.out.grown hg (by simp)).lt
  have hb := ((HB.out.grown hg (by simp)).grown gn (by simp)).rowNe (cellsB tabS) (show w.heap.size ≠ w1.heap.size by omega)
  have hr := ((HR.out.grown hg (by simp)).grown gn (by simp)).rowNe (cellsB tabS) (show w.heap.size + 1 ≠ w1.heap.size by omega)
  have ht := Blk.row (l := z256) hn tabS
  have hg2 := grownBy_old (grownBy_trans (grownBy_trans HG.out hg) gn) (grownBy_setRow _ w1.heap.size (cellsB tabS)) (by omega)
  have HB2 := Lib.hid hb
  have HR2 := Lib.hid hr
  have HT2 := Lib.hid ht
  have HG2 := Lib.hid hg2
  have HN := Lib.hid hn
  clear hb hr ht hg2 hn gn hg
  unfold aggB
  have hz2 : z256.length = 256 := by simp [z256]
  go_wp2_with (first | (refine wpList_store_row rfl 57 _ _ rfl w1.heap.size (cellsB tabS) rfl rfl 57 _ HN.out (by rw [size_tab, cellsB_size, tabS_len]) (by rw [cellsB_size, cellsB_size, tabS_len, hz2]) (cellsB_one _) ?_) | (refine wpList_load_row rfl 26 _ rfl w.heap.size rfl 26 (cellsB k) (0, 0) _ HB2.out Try.underlying26 rfl (by rw [size_key, cellsB_size, hk]) ?_))
  refine (HCS.out _ w1.heap.size HT2.out.range HT2.out.lt).mono ?_
  rintro e w' ⟨rfl, hg⟩
  have hr := HR2.out.grown hg (by simp)
  have HRR := Lib.hid hr
  have HGG := Lib.hid (grownBy_trans HG2.out hg)
  clear hr hg
  unfold aggB
  go_wp2_with (refine wpList_store_row rfl 28 _ _ rfl (w.heap.size + 1) (cellsB kk) rfl rfl 28 _ HRR.out (by rw [size_keys, cellsB_size, hkl]) (by rw [cellsB_size, cellsB_size, hkl, hzl]) (cellsB_one _) ?_)
  refine bodyPost_ret (v := .agg (cellsB kk)) (results_cell_row rfl _ _ (w.heap.size + 1) 28 (cellsB kk) (0, 0) _ rfl (setRow_heap _ _ _ _ _ _ HRR.out) Try.underlying28 rfl (by rw [size_keys, cellsB_size, hkl])) rfl ⟨rfl, ?_⟩
  exact grownBy_old HGG.out (grownBy_setRow _ _ _) (by omega)

theorem lits_keys (l : List UInt8) (hl : l.length = 176) : Try.prog.keyLits 3 28 (l.map bval) = some (l.map litB) :=
  lits_arr (n := 11) (k := 16) Try.underlying28 (by kernel_rfl) (by kernel_rfl) _ hl (fun m hm => lits_block m hm)
theorem formed_keys (l : List UInt8) (hl : l.length = 176) : (Value.agg (l.map bval).toArray).formed Try.prog 28 = true := by
  simp [Value.formed, Try.underlying28, hl]; kernel_rfl
theorem same_keys (l : List UInt8) (hl : l.length = 176) (w : World) : (binOp .eql 28 (.agg (cellsB l)) (.agg (cellsB l))).run Try.prog w = .ok (.bool true) w := by
  have := (eql_lits (P := Try.prog) (t := 28) (m := 5) (D := 3) (by decide) (by kernel_rfl) (formed_keys l hl) (formed_keys l hl) (lits_keys l hl) (lits_keys l hl) w).1
  simpa [cellsB] using this
theorem YS.rowB {ops : Array Oper} {S : World → Prop} {o : Oper} {a : Act} (hw : Region.wanted o (yielded ops a.tmps) = true) (ty : TypeId) (x : Operand) (ho : o.op = .load ty x)
    (b : Nat) (hx : a.eval x = .pointer (some ⟨b, 0, none⟩)) (l : List UInt8) (d : TypeDesc) (hS : ∀ w, S w → w.rangeAt b 0 (l.map bval))
    (hu : Try.prog.underlying ty = some d) (hd : d.isRow = true) (hi : (Try.prog.info? ty).map (·.size) = some l.length) : YS Try.prog ops S o (.agg (cellsB l)) a :=
  YS.row hw ty x ho b hx (l.map bval) d hS hu hd (by rw [hi, List.length_map])

set_option maxRecDepth 100000 in
set_option maxHeartbeats 1000000 in
theorem keys_walk (k : List UInt8) (hk : k.length = 16) (w : World) : Calls Try.prog 4 #[aggB k] w fun e w' => e = .returned (.bool true) ∧ w.grownBy w' none := by
  have hi1 : (Try.prog.info? 26).map (·.size) = some k.length := by rw [size_key, hk]
  have hm1 : Try.prog.eqGuardType Try.prog.depth 28 = false := by kernel_rfl
  have HK : Hid (∀ w1 w2, ((fun w' => w.grownBy w' none ∧ w'.rangeAt w.heap.size 0 (k.map bval)) : World → Prop) w1 → w1.grownBy w2 none → ((fun w' => w.grownBy w' none ∧ w'.rangeAt w.heap.size 0 (k.map bval)) : World → Prop) w2) := fun w1 w2 h hg => ⟨grownBy_trans h.1 hg, range_grown h.2 hg⟩
  have hca := fun w1 : World => scheduleAll_n k hk w1
  have hcb := fun w1 : World => refSchedule_n k hk w1
  have hkl := keysL_len k
  obtain ⟨kk, hkk⟩ : ∃ kk, kk = keysL k := ⟨_, rfl⟩
  rw [← hkk] at hca hcb hkl
  have HA : Hid (∀ w1, Calls Try.prog 22 #[.agg (cellsB k)] w1 fun e w' => e = .returned (.agg (cellsB kk)) ∧ w1.grownBy w' none) := hca
  have HB : Hid (∀ w1, Calls Try.prog 23 #[.agg (cellsB k)] w1 fun e w' => e = .returned (.agg (cellsB kk)) ∧ w1.grownBy w' none) := hcb
  have HQ := Lib.hid (fun w1 : World => same_keys kk hkl w1)
  clear hca hcb hkk
  have HS0 := Lib.hid (And.intro (World.grownBy_alloc w (.cells (cellsB k) 26) none) (Blk.new w 26 k).range)
  unfold aggB
  go_enter Try.func4, Try.ntmps4
  go_upto_region 1 with fail
  refine wp_regionS (fun w' => w.grownBy w' none ∧ w'.rangeAt w.heap.size 0 (k.map bval)) (by kernel_rfl) (HK.out _ _ HS0.out (grownBy_d1 (World.grownBy.refl _ _))) ?_
  refine wpS_take 0 (oi := { dst := some 3, op := Op.load 26 (Operand.tmp 1), type := 26, pos := "law.go:33", after := #[], guard := none }) rfl (by kernel_rfl) (by kernel_rfl) (by kernel_rfl) (fun _ _ _ h => h) (YS.rowB (by rfl) _ _ rfl _ rfl k _ (fun _ h => h.2) Try.underlying26 rfl hi1) ?_
  simp only [Act.put, List.setIfInBounds_toArray, List.set_cons_zero, List.set_cons_succ]
  refine wpS_take 1 (oi := { dst := some 4, op := Op.call { callee := Callee.value (Operand.func 22), args := #[Operand.tmp 3], argTypes := #[26] }, type := 28, pos := "law.go:33", after := #[{ on := 0, ground := Ground.data }], guard := none }) rfl (by kernel_rfl) (by kernel_rfl) (by kernel_rfl) (fun _ _ _ h => h) (YS.grow (f := 22) (args := #[.agg (cellsB k)]) (by rfl) (fun w => by go_simp) HK.out HA.out) ?_
  simp only [Act.put, List.setIfInBounds_toArray, List.set_cons_zero, List.set_cons_succ]
  refine wpS_take 2 (oi := { dst := some 5, op := Op.load 26 (Operand.tmp 1), type := 26, pos := "law.go:33", after := #[], guard := none }) rfl (by kernel_rfl) (by kernel_rfl) (by kernel_rfl) (fun _ _ _ h => h) (YS.rowB (by rfl) _ _ rfl _ rfl k _ (fun _ h => h.2) Try.underlying26 rfl hi1) ?_
  simp only [Act.put, List.setIfInBounds_toArray, List.set_cons_zero, List.set_cons_succ]
  refine wpS_take 3 (oi := { dst := some 6, op := Op.call { callee := Callee.value (Operand.func 23), args := #[Operand.tmp 5], argTypes := #[26] }, type := 28, pos := "law.go:33", after := #[{ on := 2, ground := Ground.data }, { on := 1, ground := Ground.chain }], guard := none }) rfl (by kernel_rfl) (by kernel_rfl) (by kernel_rfl) (fun _ _ _ h => h) (YS.grow (f := 23) (args := #[.agg (cellsB k)]) (by rfl) (fun w => by go_simp) HK.out HB.out) ?_
  simp only [Act.put, List.setIfInBounds_toArray, List.set_cons_zero, List.set_cons_succ]
  refine wpS_take 4 (v := .bool true) (oi := { dst := some 7, op := Op.binOp BinOp.eql 28 (Operand.tmp 4) (Operand.tmp 6) 28, type := 4, pos := "law.go:33", after := #[{ on := 1, ground := Ground.data }, { on := 3, ground := Ground.data }], guard := none }) rfl (by kernel_rfl) (by kernel_rfl) (by kernel_rfl) (fun _ _ _ h => h) (YS.val (by rfl) (fun w _ => by have q := HQ.out; go_simp)) ?_
  simp only [Act.put, List.setIfInBounds_toArray, List.set_cons_zero, List.set_cons_succ]
  refine wpS_take 5 (oi := { dst := some 2, op := Op.assign (Operand.tmp 7), type := 4, pos := "law.go:33", after := #[{ on := 4, ground := Ground.data }, { on := 3, ground := Ground.chain }, { on := 0, ground := Ground.phase }, { on := 1, ground := Ground.phase }, { on := 2, ground := Ground.phase }, { on := 3, ground := Ground.phase }, { on := 4, ground := Ground.phase }], guard := none }) rfl (by kernel_rfl) (by kernel_rfl) (by kernel_rfl) (fun _ _ _ h => h) (YS.val (by rfl) (fun _ _ => rfl)) ?_
  simp only [Act.put, List.setIfInBounds_toArray, List.set_cons_zero, List.set_cons_succ]
  refine wpS_done (by kernel_rfl) (fun wc hst => ?_) _
  have HS1 := Lib.hid hst
  clear hst
  go_wp2_with fail
  go_ret
  exact ⟨rfl, HS1.out.1⟩

end Go.Proofs.Ytlnmglddialhjaa
