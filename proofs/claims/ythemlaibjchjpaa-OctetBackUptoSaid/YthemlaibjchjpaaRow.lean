/- A fresh variable of several cells that is written whole at once; rows that stand. -/
import Derived.Test.YthemlaibjchjpaaOwn
namespace Go.Proofs.Ythemlaibjchjpaa
open Go.RowKit

/-- block g holds exactly the cells cs of a variable of type t -/
def Row (w : World) (g : Nat) (t : TypeId) (cs : Array Value) : Prop := w.heap[g]? = some (.cells cs t (0, 0))
theorem Row.lt {w : World} {g : Nat} {t : TypeId} {cs : Array Value} (h : Row w g t cs) : g < w.heap.size := (Array.getElem?_eq_some_iff.1 h).1
theorem Row.grown {w w' : World} {g : Nat} {t : TypeId} {cs : Array Value} (h : Row w g t cs) (hg : w.grownBy w' none) : Row w' g t cs :=
  (hg.block g h.lt (by simp)).trans h
theorem Row.grownNe {w w' : World} {g g' : Nat} {t : TypeId} {cs : Array Value} (h : Row w g t cs) (hg : w.grownBy w' (some g')) (hne : g ≠ g') : Row w' g t cs :=
  (hg.block g h.lt (by simpa using hne)).trans h
theorem Row.cell {w : World} {g : Nat} {t : TypeId} {cs : Array Value} (h : Row w g t cs) (k : Nat) : w.cell? ⟨g, k, none⟩ = cs[k]? := by
  unfold Row at h
  simp [World.cell?, h]

theorem Row.setc {w : World} {g : Nat} {t : TypeId} {cs : Array Value} (h : Row w g t cs) (k : Nat) (v : Value) : Row (w.setCell ⟨g, k, none⟩ v) g t (cs.setIfInBounds k v) := by
  unfold Row at h ⊢
  simp only [World.setCell, Array.getElem?_modify, ↓reduceIte, h, Option.map_some]
  simp
theorem Row.frozen {w : World} {g : Nat} {t : TypeId} {cs : Array Value} (h : Row w g t cs) (k : Nat) : w.frozen? ⟨g, k, none⟩ = false := by
  unfold Row at h
  simp [World.frozen?, h]

section
variable {P : Program}

theorem run_alloc_op (w : World) (ev : Operand → Value) {o : Oper} {T : TypeId} (ho : o.op = .alloc T) {i : TypeInfo} (hi : P.info? T = some i) {z : Value} (hz : i.zero = some z) :
    (execOp ev o).run P w = .ok (.value (.pointer (some ⟨w.heap.size, 0, none⟩))) (w.alloc (.cells z.cells T)) := by
  unfold execOp
  simp [ho, Instr.alloc, zeroValue, typeInfo, hi, hz, newVar, newRow]

theorem run_box_op (w : World) (ev : Operand → Value) {o : Oper} {T : TypeId} {x : Operand} (ho : o.op = .box T x) :
    (execOp ev o).run P w = .ok (.value (.pointer (some ⟨w.heap.size, 0, none⟩))) (w.alloc (.cells (ev x).cells T)) := by
  unfold execOp
  simp [ho, Instr.box, newVar, newRow]

theorem wpList_fresh {ops : Array Oper} {rest : List Oper} {o1 o2 : Oper} {a : Act} {w : World} {Q : Exit → Act → World → Prop} (hg1 : o1.guard = none) (hg2 : o2.guard = none) {T : TypeId} {d : Tmp} {x : Operand}
    (ho1 : o1.op = .alloc T) (hd : o1.dst = some d) (ho2 : o2.op = .store T (.tmp d) x) {i : TypeInfo} (hi : P.info? T = some i) {z : Value} (hz : i.zero = some z) (hsz : i.size = z.cells.size)
    (cs : Array Value) (hp : (a.put (some d) (.pointer (some ⟨w.heap.size, 0, none⟩))).eval (.tmp d) = .pointer (some ⟨w.heap.size, 0, none⟩)) (hx : (a.put (some d) (.pointer (some ⟨w.heap.size, 0, none⟩))).eval x = .agg cs)
    (hcs : z.cells.size = cs.size) (h1 : cs.all (·.oneCell') = true)
    (h : ∀ W, W.heap.size = w.heap.size + 1 → w.grownBy W none → Row W w.heap.size T cs → wpList P ops Q rest ((a.put (some d) (.pointer (some ⟨w.heap.size, 0, none⟩))).put o2.dst undef) W) :
    wpList P ops Q (o1 :: o2 :: rest) a w := by
  refine wpList_plain hg1 fun K hK => ?_
  unfold Oper.wp
  rw [run_alloc_op w a.eval ho1 hi hz, Oper.upon_value]
  refine hK _ _ ?_
  rw [hd]
  have hrow : (w.alloc (.cells z.cells T)).heap[w.heap.size]? = some (.cells z.cells T (0, 0)) := heap_alloc_new w _
  refine wpList_store_row hg2 T (.tmp d) x ho2 w.heap.size cs hp hx T z.cells hrow (by rw [hi]; simp [hsz, hcs]) hcs h1 ?_
  refine h _ (by simp) ?_ (setRow_heap _ _ _ _ _ _ hrow)
  exact grownBy_old (World.grownBy_alloc w (.cells z.cells T) none) (grownBy_setRow _ w.heap.size cs) (Nat.le_refl _)

theorem wpList_made {ops : Array Oper} {rest : List Oper} {o1 : Oper} {a : Act} {w : World} {Q : Exit → Act → World → Prop} (hg1 : o1.guard = none) {T : TypeId} (ho1 : o1.op = .alloc T) {i : TypeInfo} (hi : P.info? T = some i) {z : Value} (hz : i.zero = some z)
    (h : ∀ W, W.heap.size = w.heap.size + 1 → w.grownBy W none → Row W w.heap.size T z.cells → wpList P ops Q rest (a.put o1.dst (.pointer (some ⟨w.heap.size, 0, none⟩))) W) : wpList P ops Q (o1 :: rest) a w := by
  refine wpList_plain hg1 fun K hK => ?_
  unfold Oper.wp
  rw [run_alloc_op w a.eval ho1 hi hz, Oper.upon_value]
  exact hK _ _ (h _ (by simp) (World.grownBy_alloc w (.cells z.cells T) none) (heap_alloc_new w _))

theorem wpList_putrow {ops : Array Oper} {rest : List Oper} {o : Oper} {a : Act} {w : World} {Q : Exit → Act → World → Prop} (hg : o.guard = none) {T : TypeId} {x y : Operand} (ho : o.op = .store T x y)
    (g : Nat) (hx : a.eval x = .pointer (some ⟨g, 0, none⟩)) (cs : Array Value) (hy : a.eval y = .agg cs) {old : Array Value} (hr : Row w g T old) (hi : (P.info? T).map (·.size) = some cs.size) (hold : old.size = cs.size) (h1 : cs.all (·.oneCell') = true)
    (h : ∀ W, w.grownBy W (some g) → Row W g T cs → wpList P ops Q rest (a.put o.dst undef) W) : wpList P ops Q (o :: rest) a w :=
  wpList_store_row hg T x y ho g cs hx hy T old hr hi hold h1 (h _ (grownBy_setRow _ _ _) (setRow_heap _ _ _ _ _ _ hr))

theorem wpList_boxed {ops : Array Oper} {rest : List Oper} {o : Oper} {a : Act} {w : World} {Q : Exit → Act → World → Prop} (hg : o.guard = none) {T : TypeId} {x : Operand} (ho : o.op = .box T x)
    (cs : Array Value) (hx : a.eval x = .agg cs)
    (h : ∀ W, W.heap.size = w.heap.size + 1 → w.grownBy W none → Row W w.heap.size T cs → wpList P ops Q rest (a.put o.dst (.pointer (some ⟨w.heap.size, 0, none⟩))) W) :
    wpList P ops Q (o :: rest) a w := by
  refine wpList_plain hg fun K hK => ?_
  unfold Oper.wp
  rw [run_box_op w a.eval ho, Oper.upon_value, hx]
  refine hK _ _ ?_
  exact h _ (by simp) (World.grownBy_alloc w (.cells cs T) none) (heap_alloc_new w (.cells cs T))

end

section
variable {P : Program}
theorem run_load_op (w : World) (ev : Operand → Value) {o : Oper} (ty : TypeId) (x : Operand) (ho : o.op = .load ty x) (g : Nat) (hx : ev x = .pointer (some ⟨g, 0, none⟩)) (t : TypeId) (cs : Array Value) {d : TypeDesc} (hg : Row w g t cs)
    (hu : P.underlying ty = some d) (hd : (match d with | .struct _ | .array _ _ => true | _ => false) = true) (hi : (P.info? ty).map (·.size) = some cs.size) : (execOp ev o).run P w = .ok (.value (.agg cs)) w := by
  unfold execOp
  simp only [ho, hx, Instr.loadAt, Instr.sureAddr, Sem.run_bind, Sem.run_pure, Result.andThen_ok, run_loadVar_row w g t ty cs (0, 0) d hg hu hd hi]
theorem run_eql_op (w : World) (ev : Operand → Value) {o : Oper} {t ty : TypeId} (hgu : P.eqGuardType P.depth t = false) {x y : Operand} (ho : o.op = .binOp .eql t x y ty) (xs ys : Array Value) (hx : ev x = .agg xs) (hy : ev y = .agg ys) {v : Value} (h : (binOp .eql t (.agg xs) (.agg ys)).run P w = .ok v w) : (execOp ev o).run P w = .ok (.value v) w := by
  unfold execOp
  simp [ho, hx, hy, run_eqGuard_agg w .eql t x y xs ys hgu, h]
end

end Go.Proofs.Ythemlaibjchjpaa
