/- Blocks of bytes in memory: one block, its cells told by a list. -/
import Derived.Test.YtlnmglddialhjaaAesSt
import Derived.Test.YtlnmglddialhjaaArr
namespace Go.Proofs.Ytlnmglddialhjaa
open Go.RowKit

theorem size_state : (Try.prog.info? 33).map (·.size) = some 16 := by kernel_rfl
theorem size_block : (Try.prog.info? 27).map (·.size) = some 16 := by kernel_rfl

theorem cellsB_size (l : List UInt8) : (cellsB l).size = l.length := by simp [cellsB]
theorem cellsB_one (l : List UInt8) : (cellsB l).all (·.oneCell') = true := by simp [cellsB, bval, Value.oneCell']
theorem cellsB_get (l : List UInt8) (j : Nat) (h : j < l.length) : (cellsB l)[j]? = some (.int .u8 (((l.getD j 0)).toNat : Int)) := by simp [cellsB, h, bval]
theorem cellsB_set (l : List UInt8) (j : Nat) (x : UInt8) : (cellsB l).setIfInBounds j (.int .u8 (x.toNat : Int)) = cellsB (l.set j x) := by
  unfold cellsB
  rw [List.map_set, ← List.setIfInBounds_toArray]
  rfl

/-- the block g holds these bytes, and nothing else -/
def Blk (w : World) (g : Nat) (t : TypeId) (l : List UInt8) : Prop := w.heap[g]? = some (.cells (cellsB l) t (0, 0))
section
variable {w w' : World} {g : Nat} {t : TypeId} {l : List UInt8}
theorem Blk.lt (h : Blk w g t l) : g < w.heap.size := (Array.getElem?_eq_some_iff.1 h).1
theorem Blk.cell (h : Blk w g t l) (n : Nat) (hn : l.length = n) : ∀ j, j < n → w.cell? ⟨g, j, none⟩ = some (.int .u8 ((l.getD j 0).toNat : Int)) := by
  intro j hj
  have h' : w.heap[g]? = some (.cells (cellsB l) t (0, 0)) := h
  simp only [World.cell?, h']
  exact cellsB_get l j (by omega)
theorem Blk.free (h : Blk w g t l) : ∀ j, w.frozen? ⟨g, j, none⟩ = false := by
  intro j
  have h' : w.heap[g]? = some (.cells (cellsB l) t (0, 0)) := h
  simp [World.frozen?, h']
theorem Blk.set (h : Blk w g t l) (j : Nat) (x : UInt8) : Blk (w.setCell ⟨g, j, none⟩ (.int .u8 (x.toNat : Int))) g t (l.set j x) := by
  have h' : w.heap[g]? = some (.cells (cellsB l) t (0, 0)) := h
  unfold Blk
  simp only [World.setCell, Array.getElem?_modify, ↓reduceIte, h', Option.map_some]
  simp [cellsB_set]
theorem Blk.other (h : Blk w g t l) {g' j : Nat} {v : Value} (hne : g ≠ g') : Blk (w.setCell ⟨g', j, none⟩ v) g t l := (Below.heap_setCell _ _ _ _ hne).trans h
theorem Blk.grown (h : Blk w g t l) {r : Option Nat} (hg : w.grownBy w' r) (hne : r ≠ some g) : Blk w' g t l := (hg.block g h.lt (by simpa using fun e => hne e.symm)).trans h
theorem Blk.new (w : World) (t : TypeId) (l : List UInt8) : Blk (w.alloc (.cells (cellsB l) t)) w.heap.size t l := heap_alloc_new w _
theorem Blk.dr (h : Blk w g t l) : Blk w.drew g t l := h
theorem Blk.drewN (h : Blk w g t l) (n : Nat) : Blk (w.drewN n) g t l := h
end
theorem grownBy_d1 {a b : World} {r : Option Nat} (h : a.grownBy b r) : a.grownBy b.drew r := ⟨h.os, h.tape, h.output, h.size, h.block⟩
def z16 : List UInt8 := [0, 0, 0, 0, 0, 0, 0, 0, 0, 0, 0, 0, 0, 0, 0, 0]
/-- three blocks, made in a row -/
theorem three (w : World) (c1 c2 c3 : List UInt8) (t1 t2 t3 : TypeId) :
    Blk (((w.alloc (.cells (cellsB c1) t1)).alloc (.cells (cellsB c2) t2)).alloc (.cells (cellsB c3) t3)) w.heap.size t1 c1 ∧ Blk (((w.alloc (.cells (cellsB c1) t1)).alloc (.cells (cellsB c2) t2)).alloc (.cells (cellsB c3) t3)) (w.heap.size + 1) t2 c2 ∧
    Blk (((w.alloc (.cells (cellsB c1) t1)).alloc (.cells (cellsB c2) t2)).alloc (.cells (cellsB c3) t3)) (w.heap.size + 1 + 1) t3 c3 ∧ w.grownBy (((w.alloc (.cells (cellsB c1) t1)).alloc (.cells (cellsB c2) t2)).alloc (.cells (cellsB c3) t3)) none := by
  have h1 := Blk.new w t1 c1
  have h2 := Blk.new (w.alloc (.cells (cellsB c1) t1)) t2 c2
  have h3 := Blk.new ((w.alloc (.cells (cellsB c1) t1)).alloc (.cells (cellsB c2) t2)) t3 c3
  have g1 := World.grownBy_alloc w (.cells (cellsB c1) t1) none
  have g2 := World.grownBy_alloc (w.alloc (.cells (cellsB c1) t1)) (.cells (cellsB c2) t2) none
  have g3 := World.grownBy_alloc ((w.alloc (.cells (cellsB c1) t1)).alloc (.cells (cellsB c2) t2)) (.cells (cellsB c3) t3) none
  rw [World.size_alloc] at h2 h3
  rw [World.size_alloc] at h3
  exact ⟨(h1.grown g2 (by simp)).grown g3 (by simp), h2.grown g3 (by simp), h3, grownBy_trans (grownBy_trans g1 g2) g3⟩
theorem two (w : World) (c1 c2 : List UInt8) (t1 t2 : TypeId) :
    Blk ((w.alloc (.cells (cellsB c1) t1)).alloc (.cells (cellsB c2) t2)) w.heap.size t1 c1 ∧ Blk ((w.alloc (.cells (cellsB c1) t1)).alloc (.cells (cellsB c2) t2)) (w.heap.size + 1) t2 c2 ∧ w.grownBy ((w.alloc (.cells (cellsB c1) t1)).alloc (.cells (cellsB c2) t2)) none := by
  have h1 := Blk.new w t1 c1
  have h2 := Blk.new (w.alloc (.cells (cellsB c1) t1)) t2 c2
  have g1 := World.grownBy_alloc w (.cells (cellsB c1) t1) none
  have g2 := World.grownBy_alloc (w.alloc (.cells (cellsB c1) t1)) (.cells (cellsB c2) t2) none
  rw [World.size_alloc] at h2
  exact ⟨h1.grown g2 (by simp), h2, grownBy_trans g1 g2⟩

theorem i64_nat (n : Nat) (h : n ≤ 4611686018427387904) : IntKind.i64.wrap (n : Int) = (n : Int) := IntWalk.i64_in _ (by omega)

/-- so many rounds of a change -/
def iterU (f : Nat → List UInt8 → List UInt8) (o : List UInt8) : Nat → List UInt8
  | 0 => o
  | k + 1 => f k (iterU f o k)
theorem iterU_len {f : Nat → List UInt8 → List UInt8} {o : List UInt8} (hf : ∀ k l, (f k l).length = l.length) : ∀ k, (iterU f o k).length = o.length
  | 0 => rfl
  | k + 1 => (hf k _).trans (iterU_len hf k)

end Go.Proofs.Ytlnmglddialhjaa
