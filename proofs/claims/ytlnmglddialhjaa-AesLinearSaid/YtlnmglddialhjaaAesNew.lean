/- aes: New. -/
import Derived.Test.YtlnmglddialhjaaAesCip
namespace Go.Proofs.Ytlnmglddialhjaa
open Go.RowKit

def NewS (w0 : World) (g0 gc : Nat) (k : List UInt8) (w : World) : Prop := w0.grownBy w none ∧ w.rangeAt g0 0 (k.map bval) ∧ w.rangeAt gc 0 [.bool true] ∧ w.rangeAt gc 177 (tabS.map bval) ∧ w.there gc 1 176
theorem NewS.grown {w0 w w' : World} {g0 gc : Nat} {k : List UInt8} (h : NewS w0 g0 gc k w) (hg : w.grownBy w' none) : NewS w0 g0 gc k w' :=
  ⟨grownBy_trans h.1 hg, range_grown h.2.1 hg, range_grown h.2.2.1 hg, range_grown h.2.2.2.1 hg, there_grown h.2.2.2.2 hg⟩
def cz0 : Array Value := #[.bool true] ++ cellsB z176 ++ cellsB tabS
theorem built0 : Try.prog.built 59 [(0, .bool true), (2, .agg (cellsB tabS))] = some cz0 := by kernel_rfl
theorem wpList_built {P : Program} {ops : Array Oper} {rest : List Oper} {o : Oper} {a : Act} {w : World} {Q : Exit → Act → World → Prop} (hg : o.guard = none) (t : TypeId) (parts : Array (Nat × Operand)) (ho : o.op = .build t parts)
    (cs : Array Value) (hb : P.built t (parts.map fun (i, x) => (i, a.eval x)).toList = some cs) (h : wpList P ops Q rest (a.put o.dst (.agg cs)) w) : wpList P ops Q (o :: rest) a w :=
  wpList_build hg t parts ho (by rw [hb]; rfl) (by rw [hb]; exact h)
theorem cz_facts {W : World} {g : Nat} {T : TypeId} {cz : Array Value} (z tt : List UInt8) (hz : z.length = 176) (ht : tt.length = 256) (hc : cz = #[.bool true] ++ cellsB z ++ cellsB tt) (hh : W.heap[g]? = some (.cells cz T (0, 0))) :
    W.rangeAt g 0 [.bool true] ∧ W.rangeAt g 177 (tt.map bval) ∧ W.there g 1 176 := by
  have hs1 : (#[Value.bool true] ++ cellsB z).size = 177 := by rw [Array.size_append, cellsB_size, hz]; rfl
  have hs : cz.size = 433 := by rw [hc, Array.size_append, hs1, cellsB_size, ht]
  refine ⟨?_, ?_, ?_⟩
  · intro j v hj
    match j, hj with
    | 0, hj =>
      simp only [List.getElem?_cons_zero, Option.some.injEq] at hj
      subst hj
      simp only [World.cell?, hh]
      rw [hc, Array.getElem?_append_left (by rw [hs1]; decide), Array.getElem?_append_left (by decide)]
      rfl
    | j + 1, hj => simp at hj
  · intro j v hj
    have hjl : j < 256 := by have := (List.getElem?_eq_some_iff.1 hj).1; rw [List.length_map, ht] at this; exact this
    simp only [World.cell?, hh]
    rw [hc, Array.getElem?_append_right (by rw [hs1]; omega), hs1, show 177 + j - 177 = j by omega]
    simpa [cellsB] using hj
  · intro j hj
    constructor
    · simp only [World.cell?, hh]
      rw [Array.getElem?_eq_getElem (by rw [hs]; omega)]
      rfl
    · simp [World.frozen?, hh]
theorem cz0_eq : cz0 = #[.bool true] ++ cellsB z176 ++ cellsB tabS := rfl

set_option maxRecDepth 100000 in
set_option maxHeartbeats 2000000 in
theorem new_n (k : List UInt8) (hk : k.length = 16) (w : World) : Calls Try.prog 45 #[aggB k] w fun e w' => ∃ gc, e = .returned (.pointer (some ⟨gc, 0, none⟩)) ∧ w.heap.size ≤ gc ∧ CipAt w' gc (keysL k) ∧ w.grownBy w' none := by
  have hcs := fun (w1 : World) (g o : Nat) (h : w1.rangeAt g o (tabS.map bval)) (hl : g < w1.heap.size) => schedule_n k hk g o w1 h hl
  obtain ⟨kk, hkk⟩ : ∃ kk, kk = keysL k := ⟨_, rfl⟩
  have hkl : kk.length = 176 := by rw [hkk]; exact keysL_len k
  rw [← hkk] at hcs ⊢
  have HCS := Lib.hid hcs
  clear hkk hcs
  have hi1 : (Try.prog.info? 26).map (·.size) = some k.length := by rw [size_key, hk]
  have hbuilt := built0
  have hce := cz0_eq
  have htl := tabS_len
  have hsubs := fun w1 : World => subs_n w1
  have hzl := z176_len
  obtain ⟨cz, hcz⟩ : ∃ cz, cz = cz0 := ⟨_, rfl⟩
  obtain ⟨tt, htt⟩ : ∃ tt, tt = tabS := ⟨_, rfl⟩
  obtain ⟨z, hz⟩ : ∃ z, z = z176 := ⟨_, rfl⟩
  rw [← hcz, ← htt] at hbuilt
  rw [← hcz, ← htt, ← hz] at hce
  rw [← htt] at htl hsubs
  rw [← hz] at hzl
  have HF0 := Lib.hid (fun (W : World) (g : Nat) (hh : W.heap[g]? = some (.cells cz 59 (0, 0))) => cz_facts z tt hzl htl hce hh)
  have HB0 := Lib.hid hbuilt
  have HSB := Lib.hid hsubs
  have HTT := Lib.hid htt
  clear hcz hbuilt hce htl hsubs hzl htt hz
  have HB := Lib.hid (Blk.new w 26 k)
  have HG := Lib.hid (World.grownBy_alloc w (.cells (cellsB k) 26) none)
  unfold aggB
  go_enter Try.func45, Try.ntmps45
  go_wp2_with fail
  refine (HSB.out _).mono ?_
  rintro e w1 ⟨rfl, hg⟩
  have hlt1 := (HB.out.grown hg (by simp)).lt
  have HS0 := Lib.hid (show NewS w w.heap.size w1.heap.size k (w1.alloc (.cells cz 59)) from ⟨grownBy_trans (grownBy_trans HG.out hg) (World.grownBy_alloc _ _ _), range_grown (range_grown HB.out.range hg) (World.grownBy_alloc _ _ _), (HF0.out _ _ (heap_alloc_new w1 _)).1, HTT.out ▸ (HF0.out _ _ (heap_alloc_new w1 _)).2.1, (HF0.out _ _ (heap_alloc_new w1 _)).2.2⟩)
  clear hg
  unfold aggB
  go_wp2_with (refine wpList_built rfl 59 #[(0, .const (.bool true)), (2, .tmp 4)] rfl cz (by first | exact HB0.out | (simp only [List.map_toArray, List.map_cons, List.map_nil, Act.eval]; exact HB0.out)) ?_)
  refine wp_regionT (NewS w w.heap.size w1.heap.size k) 8 (by kernel_rfl) (HS0.out.grown (grownBy_d1 (World.grownBy.refl _ _))) ?_
  refine wpT_take 0 (oi := { dst := some 7, op := Op.move (Operand.tmp 3), type := 50, pos := "aes.go:182", after := #[], guard := none }) (oL := { dst := none, op := Op.store 28 (Operand.tmp 14) (Operand.tmp 12), type := 0, pos := "aes.go:182", after := #[{ on := 7, ground := Ground.data }, { on := 5, ground := Ground.data }, { on := 5, ground := Ground.chain }, { on := 0, ground := Ground.phase }, { on := 1, ground := Ground.phase }, { on := 2, ground := Ground.phase }, { on := 3, ground := Ground.phase }, { on := 4, ground := Ground.phase }, { on := 5, ground := Ground.phase }], guard := none }) rfl rfl rfl (by kernel_rfl) (by kernel_rfl) (by kernel_rfl) (by kernel_rfl) (by kernel_rfl) (fun _ _ _ h => h) (YS.val (by rfl) (fun _ _ => rfl)) ?_
  simp only [Act.put, List.setIfInBounds_toArray, List.set_cons_zero, List.set_cons_succ]
  refine wpT_take 1 (oi := { dst := some 8, op := Op.load 26 (Operand.tmp 1), type := 26, pos := "aes.go:182", after := #[], guard := none }) (oL := { dst := none, op := Op.store 28 (Operand.tmp 14) (Operand.tmp 12), type := 0, pos := "aes.go:182", after := #[{ on := 7, ground := Ground.data }, { on := 5, ground := Ground.data }, { on := 5, ground := Ground.chain }, { on := 0, ground := Ground.phase }, { on := 1, ground := Ground.phase }, { on := 2, ground := Ground.phase }, { on := 3, ground := Ground.phase }, { on := 4, ground := Ground.phase }, { on := 5, ground := Ground.phase }], guard := none }) rfl rfl rfl (by kernel_rfl) (by kernel_rfl) (by kernel_rfl) (by kernel_rfl) (by kernel_rfl) (fun _ _ _ h => h) (YS.rowB (by rfl) _ _ rfl _ rfl k _ (fun _ h => h.2.1) Try.underlying26 rfl hi1) ?_
  simp only [Act.put, List.setIfInBounds_toArray, List.set_cons_zero, List.set_cons_succ]
  refine wpT_take 2 (oi := { dst := some 9, op := Op.move (Operand.tmp 3), type := 50, pos := "aes.go:182", after := #[], guard := none }) (oL := { dst := none, op := Op.store 28 (Operand.tmp 14) (Operand.tmp 12), type := 0, pos := "aes.go:182", after := #[{ on := 7, ground := Ground.data }, { on := 5, ground := Ground.data }, { on := 5, ground := Ground.chain }, { on := 0, ground := Ground.phase }, { on := 1, ground := Ground.phase }, { on := 2, ground := Ground.phase }, { on := 3, ground := Ground.phase }, { on := 4, ground := Ground.phase }, { on := 5, ground := Ground.phase }], guard := none }) rfl rfl rfl (by kernel_rfl) (by kernel_rfl) (by kernel_rfl) (by kernel_rfl) (by kernel_rfl) (fun _ _ _ h => h) (YS.val (by rfl) (fun _ _ => rfl)) ?_
  simp only [Act.put, List.setIfInBounds_toArray, List.set_cons_zero, List.set_cons_succ]
  refine wpT_take 3 (v := .pointer (some ⟨w1.heap.size, 0, none⟩)) (oi := { dst := some 10, op := Op.nilCheck (Operand.tmp 9), type := 0, pos := "aes.go:182", after := #[{ on := 2, ground := Ground.data }], guard := none }) (oL := { dst := none, op := Op.store 28 (Operand.tmp 14) (Operand.tmp 12), type := 0, pos := "aes.go:182", after := #[{ on := 7, ground := Ground.data }, { on := 5, ground := Ground.data }, { on := 5, ground := Ground.chain }, { on := 0, ground := Ground.phase }, { on := 1, ground := Ground.phase }, { on := 2, ground := Ground.phase }, { on := 3, ground := Ground.phase }, { on := 4, ground := Ground.phase }, { on := 5, ground := Ground.phase }], guard := none }) rfl rfl rfl (by kernel_rfl) (by kernel_rfl) (by kernel_rfl) (by kernel_rfl) (by kernel_rfl) (fun _ _ _ h => h) (YS.val (by rfl) (fun w _ => by go_simp)) ?_
  simp only [Act.put, List.setIfInBounds_toArray, List.set_cons_zero, List.set_cons_succ]
  refine wpT_take 4 (v := .pointer (some ⟨w1.heap.size, 177, none⟩)) (oi := { dst := some 11, op := Op.fieldAddr 59 (Operand.tmp 10) 2, type := 0, pos := "aes.go:182", after := #[{ on := 3, ground := Ground.data }], guard := none }) (oL := { dst := none, op := Op.store 28 (Operand.tmp 14) (Operand.tmp 12), type := 0, pos := "aes.go:182", after := #[{ on := 7, ground := Ground.data }, { on := 5, ground := Ground.data }, { on := 5, ground := Ground.chain }, { on := 0, ground := Ground.phase }, { on := 1, ground := Ground.phase }, { on := 2, ground := Ground.phase }, { on := 3, ground := Ground.phase }, { on := 4, ground := Ground.phase }, { on := 5, ground := Ground.phase }], guard := none }) rfl rfl rfl (by kernel_rfl) (by kernel_rfl) (by kernel_rfl) (by kernel_rfl) (by kernel_rfl) (fun _ _ _ h => h) (YS.val (by rfl) (fun w _ => by go_simp)) ?_
  simp only [Act.put, List.setIfInBounds_toArray, List.set_cons_zero, List.set_cons_succ]
  refine wpT_take 5 (v := .agg (cellsB kk)) (oi := { dst := some 12, op := Op.call { callee := Callee.value (Operand.func 54), args := #[Operand.tmp 8, Operand.tmp 11], argTypes := #[26, 67] }, type := 28, pos := "aes.go:182", after := #[{ on := 1, ground := Ground.data }, { on := 4, ground := Ground.data }], guard := none }) (oL := { dst := none, op := Op.store 28 (Operand.tmp 14) (Operand.tmp 12), type := 0, pos := "aes.go:182", after := #[{ on := 7, ground := Ground.data }, { on := 5, ground := Ground.data }, { on := 5, ground := Ground.chain }, { on := 0, ground := Ground.phase }, { on := 1, ground := Ground.phase }, { on := 2, ground := Ground.phase }, { on := 3, ground := Ground.phase }, { on := 4, ground := Ground.phase }, { on := 5, ground := Ground.phase }], guard := none }) rfl rfl rfl (by kernel_rfl) (by kernel_rfl) (by kernel_rfl) (by kernel_rfl) (by kernel_rfl) (fun _ _ _ h => h) (YS.call (f := 54) (args := #[.agg (cellsB k), .pointer (some ⟨w1.heap.size, 177, none⟩)]) (by rfl) (fun w => by go_simp) (fun w2 hS => (HCS.out w2 w1.heap.size 177 hS.2.2.2.1 (World.block_lt_of_cell? w2 ⟨w1.heap.size, 0 + 0, none⟩ (hS.2.2.1 0 _ rfl))).mono fun _ _ h => ⟨h.1, hS.grown h.2⟩)) ?_
  simp only [Act.put, List.setIfInBounds_toArray, List.set_cons_zero, List.set_cons_succ]
  refine wpT_take 6 (v := .pointer (some ⟨w1.heap.size, 0, none⟩)) (oi := { dst := some 13, op := Op.nilCheck (Operand.tmp 7), type := 0, pos := "aes.go:182", after := #[{ on := 0, ground := Ground.data }, { on := 0, ground := Ground.phase }, { on := 1, ground := Ground.phase }, { on := 2, ground := Ground.phase }, { on := 3, ground := Ground.phase }, { on := 4, ground := Ground.phase }, { on := 5, ground := Ground.phase }], guard := none }) (oL := { dst := none, op := Op.store 28 (Operand.tmp 14) (Operand.tmp 12), type := 0, pos := "aes.go:182", after := #[{ on := 7, ground := Ground.data }, { on := 5, ground := Ground.data }, { on := 5, ground := Ground.chain }, { on := 0, ground := Ground.phase }, { on := 1, ground := Ground.phase }, { on := 2, ground := Ground.phase }, { on := 3, ground := Ground.phase }, { on := 4, ground := Ground.phase }, { on := 5, ground := Ground.phase }], guard := none }) rfl rfl rfl (by kernel_rfl) (by kernel_rfl) (by kernel_rfl) (by kernel_rfl) (by kernel_rfl) (fun _ _ _ h => h) (YS.val (by rfl) (fun w _ => by go_simp)) ?_
  simp only [Act.put, List.setIfInBounds_toArray, List.set_cons_zero, List.set_cons_succ]
  refine wpT_take 7 (v := .pointer (some ⟨w1.heap.size, 1, none⟩)) (oi := { dst := some 14, op := Op.fieldAddr 59 (Operand.tmp 13) 1, type := 0, pos := "aes.go:182", after := #[{ on := 6, ground := Ground.data }, { on := 0, ground := Ground.phase }, { on := 1, ground := Ground.phase }, { on := 2, ground := Ground.phase }, { on := 3, ground := Ground.phase }, { on := 4, ground := Ground.phase }, { on := 5, ground := Ground.phase }], guard := none }) (oL := { dst := none, op := Op.store 28 (Operand.tmp 14) (Operand.tmp 12), type := 0, pos := "aes.go:182", after := #[{ on := 7, ground := Ground.data }, { on := 5, ground := Ground.data }, { on := 5, ground := Ground.chain }, { on := 0, ground := Ground.phase }, { on := 1, ground := Ground.phase }, { on := 2, ground := Ground.phase }, { on := 3, ground := Ground.phase }, { on := 4, ground := Ground.phase }, { on := 5, ground := Ground.phase }], guard := none }) rfl rfl rfl (by kernel_rfl) (by kernel_rfl) (by kernel_rfl) (by kernel_rfl) (by kernel_rfl) (fun _ _ _ h => h) (YS.val (by rfl) (fun w _ => by go_simp)) ?_
  simp only [Act.put, List.setIfInBounds_toArray, List.set_cons_zero, List.set_cons_succ]
  refine wpT_last rfl (by kernel_rfl) (by kernel_rfl) (by rfl) (fun w2 hS K hK => ?_)
  refine wp_store_mid 28 _ _ rfl w1.heap.size 1 (cellsB kk) rfl rfl (by rw [cellsB_size, hkl]; exact hS.2.2.2.2) (by rw [size_keys, cellsB_size, hkl]) (cellsB_one _) (hK _ _ ?_)
  have hfin : CipAt (w2.setCells w1.heap.size 1 (kk.map bval)) w1.heap.size kk := by
    refine ⟨World.rangeAt_setCells_apart hS.2.2.1 _ _ _ (.inr (.inl (by simp))), World.rangeAt_setCells_same _ _ _ _ (by rw [List.length_map, hkl]; exact hS.2.2.2.2), World.rangeAt_setCells_apart hS.2.2.2.1 _ _ _ (.inr (.inr (by rw [List.length_map, hkl]; decide)))⟩
  have hgf : w.grownBy (w2.setCells w1.heap.size 1 (kk.map bval)) none := grownBy_old hS.1 (grownBy_spl _ _ _ _) (by omega)
  have e1 : (cellsB kk).toList = kk.map bval := rfl
  rw [e1]
  obtain ⟨W, hW⟩ : ∃ W, W = w2.setCells w1.heap.size 1 (kk.map bval) := ⟨_, rfl⟩
  rw [← hW] at hfin hgf ⊢
  have HF := Lib.hid hfin
  have HGF := Lib.hid hgf
  clear hfin hgf hW e1 hS
  go_wp2_with fail
  go_ret
  exact ⟨_, rfl, by omega, HF.out, HGF.out⟩

end Go.Proofs.Ytlnmglddialhjaa
