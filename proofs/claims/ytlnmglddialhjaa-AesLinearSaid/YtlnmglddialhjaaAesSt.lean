/- States and blocks as rows of sixteen bytes. No walk. -/
import Derived.Test.YtlnmglddialhjaaAesSub
import Derived.Test.YtlnmglddialhjaaOwn
namespace Go.Proofs.Ytlnmglddialhjaa
open Go.RowKit

/-- a row of bytes as the cells of an array -/
def cellsB (l : List UInt8) : Array Value := (l.map bval).toArray
def aggB (l : List UInt8) : Value := .agg (cellsB l)

theorem ex16 {l : List UInt8} (h : l.length = 16) : ∃ x0 x1 x2 x3 x4 x5 x6 x7 x8 x9 x10 x11 x12 x13 x14 x15, l = [x0, x1, x2, x3, x4, x5, x6, x7, x8, x9, x10, x11, x12, x13, x14, x15] := by
  match l, h with
  | [x0, x1, x2, x3, x4, x5, x6, x7, x8, x9, x10, x11, x12, x13, x14, x15], _ => exact ⟨x0, x1, x2, x3, x4, x5, x6, x7, x8, x9, x10, x11, x12, x13, x14, x15, rfl⟩

/-- rows and columns changed -/
def trL : List UInt8 → List UInt8
  | [x0, x1, x2, x3, x4, x5, x6, x7, x8, x9, x10, x11, x12, x13, x14, x15] => [x0, x4, x8, x12, x1, x5, x9, x13, x2, x6, x10, x14, x3, x7, x11, x15]
  | _ => []
/-- the rows turned -/
def shL : List UInt8 → List UInt8
  | [x0, x1, x2, x3, x4, x5, x6, x7, x8, x9, x10, x11, x12, x13, x14, x15] => [x0, x1, x2, x3, x5, x6, x7, x4, x10, x11, x8, x9, x15, x12, x13, x14]
  | _ => []
def unshL : List UInt8 → List UInt8
  | [x0, x1, x2, x3, x4, x5, x6, x7, x8, x9, x10, x11, x12, x13, x14, x15] => [x0, x1, x2, x3, x7, x4, x5, x6, x10, x11, x8, x9, x13, x14, x15, x12]
  | _ => []
theorem tr_tr {l : List UInt8} (h : l.length = 16) : trL (trL l) = l := by obtain ⟨x0, x1, x2, x3, x4, x5, x6, x7, x8, x9, x10, x11, x12, x13, x14, x15, rfl⟩ := ex16 h; rfl
theorem unsh_sh {l : List UInt8} (h : l.length = 16) : unshL (shL l) = l := by obtain ⟨x0, x1, x2, x3, x4, x5, x6, x7, x8, x9, x10, x11, x12, x13, x14, x15, rfl⟩ := ex16 h; rfl
theorem sh_unsh {l : List UInt8} (h : l.length = 16) : shL (unshL l) = l := by obtain ⟨x0, x1, x2, x3, x4, x5, x6, x7, x8, x9, x10, x11, x12, x13, x14, x15, rfl⟩ := ex16 h; rfl
theorem trL_len {l : List UInt8} (h : l.length = 16) : (trL l).length = 16 := by obtain ⟨x0, x1, x2, x3, x4, x5, x6, x7, x8, x9, x10, x11, x12, x13, x14, x15, rfl⟩ := ex16 h; rfl
theorem shL_len {l : List UInt8} (h : l.length = 16) : (shL l).length = 16 := by obtain ⟨x0, x1, x2, x3, x4, x5, x6, x7, x8, x9, x10, x11, x12, x13, x14, x15, rfl⟩ := ex16 h; rfl
theorem unshL_len {l : List UInt8} (h : l.length = 16) : (unshL l).length = 16 := by obtain ⟨x0, x1, x2, x3, x4, x5, x6, x7, x8, x9, x10, x11, x12, x13, x14, x15, rfl⟩ := ex16 h; rfl

end Go.Proofs.Ytlnmglddialhjaa
