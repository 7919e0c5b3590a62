/- cut: shapes compared; Fits, size, SegSize, BlockSize, Cover. -/
import Derived.Test.YtfboddnpkaiifaaCutAgain
import Derived.Test.YtfboddnpkaiifaaEqArr
namespace Go.Proofs.Ytfboddnpkaiifaa
open Go.RowKit

def i64ok (x : Int) : Prop := -9223372036854775808 ≤ x ∧ x ≤ 9223372036854775807
structure Sh.Wf (s : Sh) : Prop where
  k : i64ok s.k
  n : i64ok s.n
  seg : i64ok s.seg
  size : i64ok s.size
  segs : i64ok s.segs
  tail : i64ok s.tail
  block : i64ok s.block
  last : i64ok s.last
def Sh.lits (s : Sh) : List Lit := [.int .i64 s.k, .int .i64 s.n, .int .i64 s.seg, .int .i64 s.size, .int .i64 s.segs, .int .i64 s.tail, .int .i64 s.block, .int .i64 s.last]
def Sh.cells (s : Sh) : List Value := [.int .i64 s.k, .int .i64 s.n, .int .i64 s.seg, .int .i64 s.size, .int .i64 s.segs, .int .i64 s.tail, .int .i64 s.block, .int .i64 s.last]
theorem Sh.val_cells (s : Sh) : s.val = .agg s.cells.toArray := rfl
theorem Sh.lits_inj {s t : Sh} : s.lits = t.lits ↔ s = t := by
  constructor
  · intro h
    cases s; cases t
    simp only [Sh.lits, List.cons.injEq, Lit.int.injEq, true_and, and_true] at h
    obtain ⟨rfl, rfl, rfl, rfl, rfl, rfl, rfl, rfl⟩ := h
    rfl
  · rintro rfl; rfl
theorem lits_int {x : Int} (h : i64ok x) (D : Nat) : Try.prog.keyLits (D + 1) 3 [.int .i64 x] = some [.int .i64 x] := by
  unfold Program.keyLits
  rw [Try.underlying3]
  have hw : (Lit.int .i64 x).wf = true := by
    obtain ⟨h1, h2⟩ := h
    simp [Lit.wf, show IntKind.i64.min = -9223372036854775808 from rfl, show IntKind.i64.max = 9223372036854775807 from rfl]
    omega
  simp [hw]
theorem lits_sh {s : Sh} (h : s.Wf) : Try.prog.keyLits 2 47 s.cells = some s.lits := by
  unfold Program.keyLits
  rw [Try.underlying47]
  have hc : Try.prog.cellsOf 3 = 1 := by kernel_rfl
  have hn : Try.prog.cellsOf 47 = 8 := by kernel_rfl
  simp [Sh.cells, hc, hn, lits_int h.k 0, lits_int h.n 0, lits_int h.seg 0, lits_int h.size 0, lits_int h.segs 0, lits_int h.tail 0, lits_int h.block 0, lits_int h.last 0, Sh.lits]
theorem formed_sh (s : Sh) : s.val.formed Try.prog 47 = true := by
  simp [Sh.val, Value.formed, Try.underlying47]; kernel_rfl
theorem eq_sh {s t : Sh} (hs : s.Wf) (ht : t.Wf) (w : World) :
    (binOp .eql 47 s.val t.val).run Try.prog w = .ok (.bool (decide (s = t))) w ∧ (binOp .neq 47 s.val t.val).run Try.prog w = .ok (.bool (!decide (s = t))) w := by
  obtain ⟨b, hb, hiff⟩ := run_equalIn_deep (P := Try.prog) 9995 5 47 (by kernel_rfl) w 2 2 s.val t.val s.lits t.lits (formed_sh s) (formed_sh t) (lits_sh hs) (lits_sh ht)
  have e : b = decide (s = t) := by
    rw [Sh.lits_inj] at hiff
    by_cases h : s = t
    · simp [h, hiff.2 h]
    · have : b = false := by
        cases b
        · rfl
        · exact absurd (hiff.1 rfl) h
      simp [h, this]
  unfold Sh.val at hb ⊢
  rw [run_eql_struct, run_neq_struct, hb, e]
  exact ⟨rfl, rfl⟩
theorem eq_guard_sh : Try.prog.eqGuardType Try.prog.depth 47 = false := by kernel_rfl

end Go.Proofs.Ytfboddnpkaiifaa
