/- Variables of one cell that lie in memory: each a letter for the world; rows of bytes; rows of zeros that are made. -/
import Derived.Test.YthemlaibjchjpaaRow
import Derived.Great.BuildSlice
import Derived.Deep.OwnRows
namespace Go.Proofs.Ythemlaibjchjpaa
open Go.RowKit

theorem cells_one {v : Value} (h : v.oneCell' = true) : v.cells = #[v] := by cases v <;> first | rfl | cases h

section
variable {P : Program} {ops : Array Oper} {rest : List Oper} {a : Act} {w : World} {Q : Exit → Act → World → Prop}

theorem wpList_fresh1 {o1 o2 : Oper} (hg1 : o1.guard = none) (hg2 : o2.guard = none) {T : TypeId} {d : Tmp} {x : Operand}
    (ho1 : o1.op = .alloc T) (hd : o1.dst = some d) (ho2 : o2.op = .store T (.tmp d) x) {i : TypeInfo} (hi : P.info? T = some i) {z : Value} (hz : i.zero = some z) (hsz : i.size = 1) (hz1 : z.oneCell' = true)
    (v : Value) (hp : (a.put (some d) (.pointer (some ⟨w.heap.size, 0, none⟩))).eval (.tmp d) = .pointer (some ⟨w.heap.size, 0, none⟩)) (hx : (a.put (some d) (.pointer (some ⟨w.heap.size, 0, none⟩))).eval x = v)
    (h1 : v.oneCell' = true)
    (h : ∀ W, W.heap.size = w.heap.size + 1 → w.grownBy W none → Row W w.heap.size T #[v] → wpList P ops Q rest ((a.put (some d) (.pointer (some ⟨w.heap.size, 0, none⟩))).put o2.dst undef) W) :
    wpList P ops Q (o1 :: o2 :: rest) a w := by
  refine wpList_plain hg1 fun K hK => ?_
  unfold Oper.wp
  rw [run_alloc_op w a.eval ho1 hi hz, Oper.upon_value, cells_one hz1]
  refine hK _ _ ?_
  rw [hd]
  have hrow : (w.alloc (.cells #[z] T)).heap[w.heap.size]? = some (.cells #[z] T (0, 0)) := heap_alloc_new w _
  refine wpList_store_one hg2 T (.tmp d) x ho2 w.heap.size hp (by rw [hx]; exact h1) T z hrow (by rw [hi]; simp [hsz]) ?_
  rw [hx]
  refine h _ (by simp) ?_ (setRow_heap _ _ _ _ _ _ hrow)
  exact grownBy_old (World.grownBy_alloc w (.cells #[z] T) none) (grownBy_setRow _ w.heap.size #[v]) (Nat.le_refl _)

theorem wpList_put1 {o : Oper} (hg : o.guard = none) {T : TypeId} {x y : Operand} (ho : o.op = .store T x y)
    (g : Nat) (hx : a.eval x = .pointer (some ⟨g, 0, none⟩)) (v : Value) (hy : a.eval y = v) {old : Value} (hr : Row w g T #[old]) (hi : (P.info? T).map (·.size) = some 1) (h1 : v.oneCell' = true)
    (h : ∀ W, W.heap.size = w.heap.size → w.grownBy W (some g) → Row W g T #[v] → wpList P ops Q rest (a.put o.dst undef) W) : wpList P ops Q (o :: rest) a w := by
  refine wpList_store_one hg T x y ho g hx (by rw [hy]; exact h1) T old hr hi ?_
  rw [hy]
  exact h _ (by simp) (grownBy_setRow _ _ _) (setRow_heap _ _ _ _ _ _ hr)

theorem wpList_box1 {o : Oper} (hg : o.guard = none) {T : TypeId} {x : Operand} (ho : o.op = .box T x)
    (v : Value) (hx : a.eval x = v) (h1 : v.oneCell' = true)
    (h : ∀ W, W.heap.size = w.heap.size + 1 → w.grownBy W none → Row W w.heap.size T #[v] → wpList P ops Q rest (a.put o.dst (.pointer (some ⟨w.heap.size, 0, none⟩))) W) :
    wpList P ops Q (o :: rest) a w := by
  refine wpList_plain hg fun K hK => ?_
  unfold Oper.wp
  rw [run_box_op w a.eval ho, Oper.upon_value, hx, cells_one h1]
  refine hK _ _ ?_
  exact h _ (by simp) (World.grownBy_alloc w (.cells #[v] T) none) (heap_alloc_new w (.cells #[v] T))

end

/-- bytes as cells -/
def rowB (l : List UInt8) : Array Value := (l.map bval).toArray
theorem rowB_size (l : List UInt8) : (rowB l).size = l.length := by simp [rowB]
/-- the block g holds these bytes, and nothing else -/
def BRow (w : World) (g : Nat) (t : TypeId) (l : List UInt8) : Prop := Row w g t (rowB l)
section
variable {w w' : World} {g : Nat} {t : TypeId} {l : List UInt8}
theorem BRow.lt (h : BRow w g t l) : g < w.heap.size := Row.lt h
theorem BRow.cell (h : BRow w g t l) (k : Nat) (hk : k < l.length) : w.cell? ⟨g, k, none⟩ = some (.int .u8 ((l.getD k 0).toNat : Int)) := by
  rw [Row.cell h k]
  simp [rowB, hk, bval]
theorem BRow.frozen (h : BRow w g t l) (k : Nat) : w.frozen? ⟨g, k, none⟩ = false := Row.frozen h k
theorem BRow.set (h : BRow w g t l) (k : Nat) (x : UInt8) : BRow (w.setCell ⟨g, k, none⟩ (.int .u8 (x.toNat : Int))) g t (l.set k x) := by
  have h' := Row.setc h k (.int .u8 (x.toNat : Int))
  unfold BRow
  rw [show rowB (l.set k x) = (rowB l).setIfInBounds k (.int .u8 (x.toNat : Int)) by unfold rowB; rw [List.map_set, ← List.setIfInBounds_toArray]; rfl]
  exact h'
theorem BRow.grown (h : BRow w g t l) (hg : w.grownBy w' none) : BRow w' g t l := Row.grown h hg
theorem BRow.grownNe {g' : Nat} (h : BRow w g t l) (hg : w.grownBy w' (some g')) (hne : g ≠ g') : BRow w' g t l := Row.grownNe h hg hne
theorem BRow.lies (h : BRow w g t l) : BLies w (some ⟨g, 0, none⟩) l := by
  intro k hk
  refine ⟨g, 0, rfl, ?_⟩
  rw [Nat.zero_add, BRow.cell h k hk]
  simp [hk]
theorem BRow.own (h : BRow w g t l) {base : Nat} (hb : base ≤ g) (n : Nat) (hn : l.length = n) (hm : n ≤ maxLen) : Own w base t 1 (some ⟨g, 0, none⟩) n n (l.map bval) := by
  subst hn
  exact ⟨by simp, .inr ⟨g, rowB l, rfl, hb, h, Nat.le_refl _, hm, by simp [rowB], by simp [rowB, List.take_of_length_le]⟩⟩
end
theorem BRow.ownTake {w : World} {g : Nat} {t : TypeId} {l : List UInt8} (h : BRow w g t l) {base : Nat} (hb : base ≤ g) (k n : Nat) (hn : l.length = n) (hk : k ≤ n) (hm : n ≤ maxLen) : Own w base t 1 (some ⟨g, 0, none⟩) k n ((l.take k).map bval) := by
  subst hn
  exact ⟨by simp [hk], .inr ⟨g, rowB l, rfl, hb, h, hk, hm, by simp [rowB], by simp [rowB]⟩⟩

section
variable {P : Program} {ops : Array Oper} {rest : List Oper} {a : Act} {w : World} {Q : Exit → Act → World → Prop}
theorem madeCells_u8 (n : Nat) : madeCells #[.int .u8 0] n = rowB (List.replicate n 0) := by
  apply Array.toList_inj.1
  simp [madeCells, rowB]
  apply List.ext_getElem
  · simp
  · intro i h1 h2
    simp [Nat.mod_one, bval]
theorem wpList_mkB {o : Oper} (hg : o.guard = none) (l c : Operand) (t : TypeId) (hop : o.op = Op.makeSlice t l c) (e : TypeId) {i : TypeInfo} (ht : P.underlying t = some (.slice e)) (hi : P.info? e = some i) (hz : i.zero = some (.int .u8 0)) (hsize : i.size = 1) (hby : i.bytes = 1)
    (n : Nat) (hl : a.eval l = .int .i64 (n : Int)) (hc : a.eval c = .int .i64 (n : Int)) (hn : n ≤ 281474976710656)
    (h : ∀ W, W.heap.size = w.heap.size + 1 → w.grownBy W none → BRow W w.heap.size e (List.replicate n 0) → wpList P ops Q rest (a.put o.dst (.slice (some ⟨w.heap.size, 0, none⟩) n n)) W) :
    wpList P ops Q (o :: rest) a w := by
  refine wpList_make_row w hg l c t hop e i (.int .u8 0) ht hi hz hsize rfl .i64 .i64 n hl hc (by rw [hby]; omega) (by omega) ?_
  rw [madeCells_u8]
  exact h _ (by simp) (World.grownBy_alloc w _ none) (heap_alloc_new w _)
end

end Go.Proofs.Ythemlaibjchjpaa
