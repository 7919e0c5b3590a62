/- States and blocks compared; what stays while memory is made. -/
import Derived.Test.YtlnmglddialhjaaAesBlk
import Derived.Test.YtlnmglddialhjaaEqArr
import Derived.Deep.RegionHeld3
import Derived.Deep.Cut
import Derived.Deep.MidRow
namespace Go.Proofs.Ytlnmglddialhjaa
open Go.RowKit

theorem lits_block (l : List UInt8) (hl : l.length = 16) : Try.prog.keyLits 2 27 (l.map bval) = some (l.map litB) :=
  lits_arr (n := 16) (k := 1) Try.underlying27 (by kernel_rfl) (by kernel_rfl) _ hl (fun m hm => lits_byte Try.underlying5 m hm)
theorem lits_state (l : List UInt8) (hl : l.length = 16) : Try.prog.keyLits 3 33 (l.map bval) = some (l.map litB) :=
  lits_arr (n := 4) (k := 4) Try.underlying33 (by kernel_rfl) (by kernel_rfl) _ hl (fun m hm => lits_arr (n := 4) (k := 1) Try.underlying31 (by kernel_rfl) (by kernel_rfl) _ hm (fun m hm => lits_byte Try.underlying5 m hm))
theorem formed_block (l : List UInt8) (hl : l.length = 16) : (Value.agg (l.map bval).toArray).formed Try.prog 27 = true := by
  simp [Value.formed, Try.underlying27, hl]; kernel_rfl
theorem formed_state (l : List UInt8) (hl : l.length = 16) : (Value.agg (l.map bval).toArray).formed Try.prog 33 = true := by
  simp [Value.formed, Try.underlying33, hl]; kernel_rfl
theorem eq_block (l r : List UInt8) (hl : l.length = 16) (hr : r.length = 16) (w : World) :
    (binOp .eql 27 (.agg (cellsB l)) (.agg (cellsB r))).run Try.prog w = .ok (.bool (decide (l = r))) w ∧ (binOp .neq 27 (.agg (cellsB l)) (.agg (cellsB r))).run Try.prog w = .ok (.bool (!decide (l = r))) w :=
  eql_lits (P := Try.prog) (t := 27) (m := 5) (D := 2) (by decide) (by kernel_rfl) (formed_block l hl) (formed_block r hr) (lits_block l hl) (lits_block r hr) w
theorem eq_state (l r : List UInt8) (hl : l.length = 16) (hr : r.length = 16) (w : World) :
    (binOp .eql 33 (.agg (cellsB l)) (.agg (cellsB r))).run Try.prog w = .ok (.bool (decide (l = r))) w ∧ (binOp .neq 33 (.agg (cellsB l)) (.agg (cellsB r))).run Try.prog w = .ok (.bool (!decide (l = r))) w :=
  eql_lits (P := Try.prog) (t := 33) (m := 5) (D := 3) (by decide) (by kernel_rfl) (formed_state l hl) (formed_state r hr) (lits_state l hl) (lits_state r hr) w
theorem same_block (l : List UInt8) (hl : l.length = 16) (w : World) : (binOp .eql 27 (.agg (cellsB l)) (.agg (cellsB l))).run Try.prog w = .ok (.bool true) w := by simpa using (eq_block l l hl hl w).1
theorem nsame_block (l : List UInt8) (hl : l.length = 16) (w : World) : (binOp .neq 27 (.agg (cellsB l)) (.agg (cellsB l))).run Try.prog w = .ok (.bool false) w := by simpa using (eq_block l l hl hl w).2
theorem same_state (l : List UInt8) (hl : l.length = 16) (w : World) : (binOp .eql 33 (.agg (cellsB l)) (.agg (cellsB l))).run Try.prog w = .ok (.bool true) w := by simpa using (eq_state l l hl hl w).1
theorem nsame_state (l : List UInt8) (hl : l.length = 16) (w : World) : (binOp .neq 33 (.agg (cellsB l)) (.agg (cellsB l))).run Try.prog w = .ok (.bool false) w := by simpa using (eq_state l l hl hl w).2

theorem range_grown {w1 w2 : World} {b o : Nat} {cs : List Value} (h : w1.rangeAt b o cs) (hg : w1.grownBy w2 none) : w2.rangeAt b o cs := fun j v hj =>
  (World.cell?_of_block (hg.block _ (World.block_lt_of_cell? w1 _ (h j v hj)) (by simp))).trans (h j v hj)
theorem Blk.range {w : World} {g : Nat} {t : TypeId} {l : List UInt8} (h : Blk w g t l) : w.rangeAt g 0 (l.map bval) := by
  have h' : w.heap[g]? = some (.cells (cellsB l) t (0, 0)) := h
  intro j v hj
  rw [Nat.zero_add]
  simp only [World.cell?, h']
  simpa [cellsB] using hj
theorem keep2 {w w1 w2 : World} {x y : Nat} {s b : List Value} (hg : w1.grownBy w2 none) (h : w.grownBy w1 none ∧ w1.rangeAt x 0 s ∧ w1.rangeAt y 0 b) : w.grownBy w2 none ∧ w2.rangeAt x 0 s ∧ w2.rangeAt y 0 b :=
  ⟨grownBy_trans h.1 hg, range_grown h.2.1 hg, range_grown h.2.2 hg⟩
theorem keep2d {w w1 : World} {x y : Nat} {s b : List Value} (h : w.grownBy w1 none ∧ w1.rangeAt x 0 s ∧ w1.rangeAt y 0 b) : w.grownBy w1.drew none ∧ w1.drew.rangeAt x 0 s ∧ w1.drew.rangeAt y 0 b :=
  keep2 (grownBy_d1 (World.grownBy.refl _ _)) h

end Go.Proofs.Ytlnmglddialhjaa
