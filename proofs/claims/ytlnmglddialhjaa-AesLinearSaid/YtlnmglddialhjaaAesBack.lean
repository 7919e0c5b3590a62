/- AesBack: what is mixed is unmixed; the walk. -/
import Derived.Test.YtlnmglddialhjaaAesAwake
import Derived.Test.YtlnmglddialhjaaAesSubs
import Derived.Test.YtlnmglddialhjaaAesEq
namespace Go.Proofs.Ytlnmglddialhjaa
open Go.RowKit

theorem um00 (x : UInt8) : am 14 (am 2 x) ^^^ am 11 (am 1 x) ^^^ am 13 (am 1 x) ^^^ am 9 (am 3 x) = x := by
  have := all256 (p := fun x => am 14 (am 2 x) ^^^ am 11 (am 1 x) ^^^ am 13 (am 1 x) ^^^ am 9 (am 3 x) == x) (by decide +kernel) x
  simpa using this
theorem um01 (x : UInt8) : am 14 (am 3 x) ^^^ am 11 (am 2 x) ^^^ am 13 (am 1 x) ^^^ am 9 (am 1 x) = 0 := by
  have := all256 (p := fun x => am 14 (am 3 x) ^^^ am 11 (am 2 x) ^^^ am 13 (am 1 x) ^^^ am 9 (am 1 x) == 0) (by decide +kernel) x
  simpa using this
theorem um02 (x : UInt8) : am 14 (am 1 x) ^^^ am 11 (am 3 x) ^^^ am 13 (am 2 x) ^^^ am 9 (am 1 x) = 0 := by
  have := all256 (p := fun x => am 14 (am 1 x) ^^^ am 11 (am 3 x) ^^^ am 13 (am 2 x) ^^^ am 9 (am 1 x) == 0) (by decide +kernel) x
  simpa using this
theorem um03 (x : UInt8) : am 14 (am 1 x) ^^^ am 11 (am 1 x) ^^^ am 13 (am 3 x) ^^^ am 9 (am 2 x) = 0 := by
  have := all256 (p := fun x => am 14 (am 1 x) ^^^ am 11 (am 1 x) ^^^ am 13 (am 3 x) ^^^ am 9 (am 2 x) == 0) (by decide +kernel) x
  simpa using this
theorem um10 (x : UInt8) : am 9 (am 2 x) ^^^ am 14 (am 1 x) ^^^ am 11 (am 1 x) ^^^ am 13 (am 3 x) = 0 := by
  have := all256 (p := fun x => am 9 (am 2 x) ^^^ am 14 (am 1 x) ^^^ am 11 (am 1 x) ^^^ am 13 (am 3 x) == 0) (by decide +kernel) x
  simpa using this
theorem um11 (x : UInt8) : am 9 (am 3 x) ^^^ am 14 (am 2 x) ^^^ am 11 (am 1 x) ^^^ am 13 (am 1 x) = x := by
  have := all256 (p := fun x => am 9 (am 3 x) ^^^ am 14 (am 2 x) ^^^ am 11 (am 1 x) ^^^ am 13 (am 1 x) == x) (by decide +kernel) x
  simpa using this
theorem um12 (x : UInt8) : am 9 (am 1 x) ^^^ am 14 (am 3 x) ^^^ am 11 (am 2 x) ^^^ am 13 (am 1 x) = 0 := by
  have := all256 (p := fun x => am 9 (am 1 x) ^^^ am 14 (am 3 x) ^^^ am 11 (am 2 x) ^^^ am 13 (am 1 x) == 0) (by decide +kernel) x
  simpa using this
theorem um13 (x : UInt8) : am 9 (am 1 x) ^^^ am 14 (am 1 x) ^^^ am 11 (am 3 x) ^^^ am 13 (am 2 x) = 0 := by
  have := all256 (p := fun x => am 9 (am 1 x) ^^^ am 14 (am 1 x) ^^^ am 11 (am 3 x) ^^^ am 13 (am 2 x) == 0) (by decide +kernel) x
  simpa using this
theorem um20 (x : UInt8) : am 13 (am 2 x) ^^^ am 9 (am 1 x) ^^^ am 14 (am 1 x) ^^^ am 11 (am 3 x) = 0 := by
  have := all256 (p := fun x => am 13 (am 2 x) ^^^ am 9 (am 1 x) ^^^ am 14 (am 1 x) ^^^ am 11 (am 3 x) == 0) (by decide +kernel) x
  simpa using this
theorem um21 (x : UInt8) : am 13 (am 3 x) ^^^ am 9 (am 2 x) ^^^ am 14 (am 1 x) ^^^ am 11 (am 1 x) = 0 := by
  have := all256 (p := fun x => am 13 (am 3 x) ^^^ am 9 (am 2 x) ^^^ am 14 (am 1 x) ^^^ am 11 (am 1 x) == 0) (by decide +kernel) x
  simpa using this
theorem um22 (x : UInt8) : am 13 (am 1 x) ^^^ am 9 (am 3 x) ^^^ am 14 (am 2 x) ^^^ am 11 (am 1 x) = x := by
  have := all256 (p := fun x => am 13 (am 1 x) ^^^ am 9 (am 3 x) ^^^ am 14 (am 2 x) ^^^ am 11 (am 1 x) == x) (by decide +kernel) x
  simpa using this
theorem um23 (x : UInt8) : am 13 (am 1 x) ^^^ am 9 (am 1 x) ^^^ am 14 (am 3 x) ^^^ am 11 (am 2 x) = 0 := by
  have := all256 (p := fun x => am 13 (am 1 x) ^^^ am 9 (am 1 x) ^^^ am 14 (am 3 x) ^^^ am 11 (am 2 x) == 0) (by decide +kernel) x
  simpa using this
theorem um30 (x : UInt8) : am 11 (am 2 x) ^^^ am 13 (am 1 x) ^^^ am 9 (am 1 x) ^^^ am 14 (am 3 x) = 0 := by
  have := all256 (p := fun x => am 11 (am 2 x) ^^^ am 13 (am 1 x) ^^^ am 9 (am 1 x) ^^^ am 14 (am 3 x) == 0) (by decide +kernel) x
  simpa using this
theorem um31 (x : UInt8) : am 11 (am 3 x) ^^^ am 13 (am 2 x) ^^^ am 9 (am 1 x) ^^^ am 14 (am 1 x) = 0 := by
  have := all256 (p := fun x => am 11 (am 3 x) ^^^ am 13 (am 2 x) ^^^ am 9 (am 1 x) ^^^ am 14 (am 1 x) == 0) (by decide +kernel) x
  simpa using this
theorem um32 (x : UInt8) : am 11 (am 1 x) ^^^ am 13 (am 3 x) ^^^ am 9 (am 2 x) ^^^ am 14 (am 1 x) = 0 := by
  have := all256 (p := fun x => am 11 (am 1 x) ^^^ am 13 (am 3 x) ^^^ am 9 (am 2 x) ^^^ am 14 (am 1 x) == 0) (by decide +kernel) x
  simpa using this
theorem um33 (x : UInt8) : am 11 (am 1 x) ^^^ am 13 (am 1 x) ^^^ am 9 (am 3 x) ^^^ am 14 (am 2 x) = x := by
  have := all256 (p := fun x => am 11 (am 1 x) ^^^ am 13 (am 1 x) ^^^ am 9 (am 3 x) ^^^ am 14 (am 2 x) == x) (by decide +kernel) x
  simpa using this
theorem mu00 (x : UInt8) : am 2 (am 14 x) ^^^ am 3 (am 9 x) ^^^ am 1 (am 13 x) ^^^ am 1 (am 11 x) = x := by
  have := all256 (p := fun x => am 2 (am 14 x) ^^^ am 3 (am 9 x) ^^^ am 1 (am 13 x) ^^^ am 1 (am 11 x) == x) (by decide +kernel) x
  simpa using this
theorem mu01 (x : UInt8) : am 2 (am 11 x) ^^^ am 3 (am 14 x) ^^^ am 1 (am 9 x) ^^^ am 1 (am 13 x) = 0 := by
  have := all256 (p := fun x => am 2 (am 11 x) ^^^ am 3 (am 14 x) ^^^ am 1 (am 9 x) ^^^ am 1 (am 13 x) == 0) (by decide +kernel) x
  simpa using this
theorem mu02 (x : UInt8) : am 2 (am 13 x) ^^^ am 3 (am 11 x) ^^^ am 1 (am 14 x) ^^^ am 1 (am 9 x) = 0 := by
  have := all256 (p := fun x => am 2 (am 13 x) ^^^ am 3 (am 11 x) ^^^ am 1 (am 14 x) ^^^ am 1 (am 9 x) == 0) (by decide +kernel) x
  simpa using this
theorem mu03 (x : UInt8) : am 2 (am 9 x) ^^^ am 3 (am 13 x) ^^^ am 1 (am 11 x) ^^^ am 1 (am 14 x) = 0 := by
  have := all256 (p := fun x => am 2 (am 9 x) ^^^ am 3 (am 13 x) ^^^ am 1 (am 11 x) ^^^ am 1 (am 14 x) == 0) (by decide +kernel) x
  simpa using this
theorem mu10 (x : UInt8) : am 1 (am 14 x) ^^^ am 2 (am 9 x) ^^^ am 3 (am 13 x) ^^^ am 1 (am 11 x) = 0 := by
  have := all256 (p := fun x => am 1 (am 14 x) ^^^ am 2 (am 9 x) ^^^ am 3 (am 13 x) ^^^ am 1 (am 11 x) == 0) (by decide +kernel) x
  simpa using this
theorem mu11 (x : UInt8) : am 1 (am 11 x) ^^^ am 2 (am 14 x) ^^^ am 3 (am 9 x) ^^^ am 1 (am 13 x) = x := by
  have := all256 (p := fun x => am 1 (am 11 x) ^^^ am 2 (am 14 x) ^^^ am 3 (am 9 x) ^^^ am 1 (am 13 x) == x) (by decide +kernel) x
  simpa using this
theorem mu12 (x : UInt8) : am 1 (am 13 x) ^^^ am 2 (am 11 x) ^^^ am 3 (am 14 x) ^^^ am 1 (am 9 x) = 0 := by
  have := all256 (p := fun x => am 1 (am 13 x) ^^^ am 2 (am 11 x) ^^^ am 3 (am 14 x) ^^^ am 1 (am 9 x) == 0) (by decide +kernel) x
  simpa using this
theorem mu13 (x : UInt8) : am 1 (am 9 x) ^^^ am 2 (am 13 x) ^^^ am 3 (am 11 x) ^^^ am 1 (am 14 x) = 0 := by
  have := all256 (p := fun x => am 1 (am 9 x) ^^^ am 2 (am 13 x) ^^^ am 3 (am 11 x) ^^^ am 1 (am 14 x) == 0) (by decide +kernel) x
  simpa using this
theorem mu20 (x : UInt8) : am 1 (am 14 x) ^^^ am 1 (am 9 x) ^^^ am 2 (am 13 x) ^^^ am 3 (am 11 x) = 0 := by
  have := all256 (p := fun x => am 1 (am 14 x) ^^^ am 1 (am 9 x) ^^^ am 2 (am 13 x) ^^^ am 3 (am 11 x) == 0) (by decide +kernel) x
  simpa using this
theorem mu21 (x : UInt8) : am 1 (am 11 x) ^^^ am 1 (am 14 x) ^^^ am 2 (am 9 x) ^^^ am 3 (am 13 x) = 0 := by
  have := all256 (p := fun x => am 1 (am 11 x) ^^^ am 1 (am 14 x) ^^^ am 2 (am 9 x) ^^^ am 3 (am 13 x) == 0) (by decide +kernel) x
  simpa using this
theorem mu22 (x : UInt8) : am 1 (am 13 x) ^^^ am 1 (am 11 x) ^^^ am 2 (am 14 x) ^^^ am 3 (am 9 x) = x := by
  have := all256 (p := fun x => am 1 (am 13 x) ^^^ am 1 (am 11 x) ^^^ am 2 (am 14 x) ^^^ am 3 (am 9 x) == x) (by decide +kernel) x
  simpa using this
theorem mu23 (x : UInt8) : am 1 (am 9 x) ^^^ am 1 (am 13 x) ^^^ am 2 (am 11 x) ^^^ am 3 (am 14 x) = 0 := by
  have := all256 (p := fun x => am 1 (am 9 x) ^^^ am 1 (am 13 x) ^^^ am 2 (am 11 x) ^^^ am 3 (am 14 x) == 0) (by decide +kernel) x
  simpa using this
theorem mu30 (x : UInt8) : am 3 (am 14 x) ^^^ am 1 (am 9 x) ^^^ am 1 (am 13 x) ^^^ am 2 (am 11 x) = 0 := by
  have := all256 (p := fun x => am 3 (am 14 x) ^^^ am 1 (am 9 x) ^^^ am 1 (am 13 x) ^^^ am 2 (am 11 x) == 0) (by decide +kernel) x
  simpa using this
theorem mu31 (x : UInt8) : am 3 (am 11 x) ^^^ am 1 (am 14 x) ^^^ am 1 (am 9 x) ^^^ am 2 (am 13 x) = 0 := by
  have := all256 (p := fun x => am 3 (am 11 x) ^^^ am 1 (am 14 x) ^^^ am 1 (am 9 x) ^^^ am 2 (am 13 x) == 0) (by decide +kernel) x
  simpa using this
theorem mu32 (x : UInt8) : am 3 (am 13 x) ^^^ am 1 (am 11 x) ^^^ am 1 (am 14 x) ^^^ am 2 (am 9 x) = 0 := by
  have := all256 (p := fun x => am 3 (am 13 x) ^^^ am 1 (am 11 x) ^^^ am 1 (am 14 x) ^^^ am 2 (am 9 x) == 0) (by decide +kernel) x
  simpa using this
theorem mu33 (x : UInt8) : am 3 (am 9 x) ^^^ am 1 (am 13 x) ^^^ am 1 (am 11 x) ^^^ am 2 (am 14 x) = x := by
  have := all256 (p := fun x => am 3 (am 9 x) ^^^ am 1 (am 13 x) ^^^ am 1 (am 11 x) ^^^ am 2 (am 14 x) == x) (by decide +kernel) x
  simpa using this
theorem xr (x y z : UInt8) : (x ^^^ y) ^^^ z = x ^^^ (y ^^^ z) := UInt8.xor_assoc x y z
theorem quad (a0 a1 a2 a3 b0 b1 b2 b3 c0 c1 c2 c3 d0 d1 d2 d3 : UInt8) : (a0 ^^^ a1 ^^^ a2 ^^^ a3) ^^^ (b0 ^^^ b1 ^^^ b2 ^^^ b3) ^^^ (c0 ^^^ c1 ^^^ c2 ^^^ c3) ^^^ (d0 ^^^ d1 ^^^ d2 ^^^ d3) =
    (a0 ^^^ b0 ^^^ c0 ^^^ d0) ^^^ (a1 ^^^ b1 ^^^ c1 ^^^ d1) ^^^ (a2 ^^^ b2 ^^^ c2 ^^^ d2) ^^^ (a3 ^^^ b3 ^^^ c3 ^^^ d3) := by
  simp only [UInt8.xor_assoc, UInt8.xor_comm, xlc]
set_option maxHeartbeats 2000000 in
theorem unmix_mix {l : List UInt8} (h : l.length = 16) : mixL [14, 11, 13, 9] (mixL [2, 3, 1, 1] l) = l := by
  obtain ⟨x0, x1, x2, x3, x4, x5, x6, x7, x8, x9, x10, x11, x12, x13, x14, x15, rfl⟩ := ex16 h
  show [am 14 (am 2 x0 ^^^ am 3 x4 ^^^ am 1 x8 ^^^ am 1 x12) ^^^ am 11 (am 1 x0 ^^^ am 2 x4 ^^^ am 3 x8 ^^^ am 1 x12) ^^^ am 13 (am 1 x0 ^^^ am 1 x4 ^^^ am 2 x8 ^^^ am 3 x12) ^^^ am 9 (am 3 x0 ^^^ am 1 x4 ^^^ am 1 x8 ^^^ am 2 x12), am 14 (am 2 x1 ^^^ am 3 x5 ^^^ am 1 x9 ^^^ am 1 x13) ^^^ am 11 (am 1 x1 ^^^ am 2 x5 ^^^ am 3 x9 ^^^ am 1 x13) ^^^ am 13 (am 1 x1 ^^^ am 1 x5 ^^^ am 2 x9 ^^^ am 3 x13) ^^^ am 9 (am 3 x1 ^^^ am 1 x5 ^^^ am 1 x9 ^^^ am 2 x13), am 14 (am 2 x2 ^^^ am 3 x6 ^^^ am 1 x10 ^^^ am 1 x14) ^^^ am 11 (am 1 x2 ^^^ am 2 x6 ^^^ am 3 x10 ^^^ am 1 x14) ^^^ am 13 (am 1 x2 ^^^ am 1 x6 ^^^ am 2 x10 ^^^ am 3 x14) ^^^ am 9 (am 3 x2 ^^^ am 1 x6 ^^^ am 1 x10 ^^^ am 2 x14), am 14 (am 2 x3 ^^^ am 3 x7 ^^^ am 1 x11 ^^^ am 1 x15) ^^^ am 11 (am 1 x3 ^^^ am 2 x7 ^^^ am 3 x11 ^^^ am 1 x15) ^^^ am 13 (am 1 x3 ^^^ am 1 x7 ^^^ am 2 x11 ^^^ am 3 x15) ^^^ am 9 (am 3 x3 ^^^ am 1 x7 ^^^ am 1 x11 ^^^ am 2 x15), am 9 (am 2 x0 ^^^ am 3 x4 ^^^ am 1 x8 ^^^ am 1 x12) ^^^ am 14 (am 1 x0 ^^^ am 2 x4 ^^^ am 3 x8 ^^^ am 1 x12) ^^^ am 11 (am 1 x0 ^^^ am 1 x4 ^^^ am 2 x8 ^^^ am 3 x12) ^^^ am 13 (am 3 x0 ^^^ am 1 x4 ^^^ am 1 x8 ^^^ am 2 x12), am 9 (am 2 x1 ^^^ am 3 x5 ^^^ am 1 x9 ^^^ am 1 x13) ^^^ am 14 (am 1 x1 ^^^ am 2 x5 ^^^ am 3 x9 ^^^ am 1 x13) ^^^ am 11 (am 1 x1 ^^^ am 1 x5 ^^^ am 2 x9 ^^^ am 3 x13) ^^^ am 13 (am 3 x1 ^^^ am 1 x5 ^^^ am 1 x9 ^^^ am 2 x13), am 9 (am 2 x2 ^^^ am 3 x6 ^^^ am 1 x10 ^^^ am 1 x14) ^^^ am 14 (am 1 x2 ^^^ am 2 x6 ^^^ am 3 x10 ^^^ am 1 x14) ^^^ am 11 (am 1 x2 ^^^ am 1 x6 ^^^ am 2 x10 ^^^ am 3 x14) ^^^ am 13 (am 3 x2 ^^^ am 1 x6 ^^^ am 1 x10 ^^^ am 2 x14), am 9 (am 2 x3 ^^^ am 3 x7 ^^^ am 1 x11 ^^^ am 1 x15) ^^^ am 14 (am 1 x3 ^^^ am 2 x7 ^^^ am 3 x11 ^^^ am 1 x15) ^^^ am 11 (am 1 x3 ^^^ am 1 x7 ^^^ am 2 x11 ^^^ am 3 x15) ^^^ am 13 (am 3 x3 ^^^ am 1 x7 ^^^ am 1 x11 ^^^ am 2 x15), am 13 (am 2 x0 ^^^ am 3 x4 ^^^ am 1 x8 ^^^ am 1 x12) ^^^ am 9 (am 1 x0 ^^^ am 2 x4 ^^^ am 3 x8 ^^^ am 1 x12) ^^^ am 14 (am 1 x0 ^^^ am 1 x4 ^^^ am 2 x8 ^^^ am 3 x12) ^^^ am 11 (am 3 x0 ^^^ am 1 x4 ^^^ am 1 x8 ^^^ am 2 x12), am 13 (am 2 x1 ^^^ am 3 x5 ^^^ am 1 x9 ^^^ am 1 x13) ^^^ am 9 (am 1 x1 ^^^ am 2 x5 ^^^ am 3 x9 ^^^ am 1 x13) ^^^ am 14 (am 1 x1 ^^^ am 1 x5 ^^^ am 2 x9 ^^^ am 3 x13) ^^^ am 11 (am 3 x1 ^^^ am 1 x5 ^^^ am 1 x9 ^^^ am 2 x13), am 13 (am 2 x2 ^^^ am 3 x6 ^^^ am 1 x10 ^^^ am 1 x14) ^^^ am 9 (am 1 x2 ^^^ am 2 x6 ^^^ am 3 x10 ^^^ am 1 x14) ^^^ am 14 (am 1 x2 ^^^ am 1 x6 ^^^ am 2 x10 ^^^ am 3 x14) ^^^ am 11 (am 3 x2 ^^^ am 1 x6 ^^^ am 1 x10 ^^^ am 2 x14), am 13 (am 2 x3 ^^^ am 3 x7 ^^^ am 1 x11 ^^^ am 1 x15) ^^^ am 9 (am 1 x3 ^^^ am 2 x7 ^^^ am 3 x11 ^^^ am 1 x15) ^^^ am 14 (am 1 x3 ^^^ am 1 x7 ^^^ am 2 x11 ^^^ am 3 x15) ^^^ am 11 (am 3 x3 ^^^ am 1 x7 ^^^ am 1 x11 ^^^ am 2 x15), am 11 (am 2 x0 ^^^ am 3 x4 ^^^ am 1 x8 ^^^ am 1 x12) ^^^ am 13 (am 1 x0 ^^^ am 2 x4 ^^^ am 3 x8 ^^^ am 1 x12) ^^^ am 9 (am 1 x0 ^^^ am 1 x4 ^^^ am 2 x8 ^^^ am 3 x12) ^^^ am 14 (am 3 x0 ^^^ am 1 x4 ^^^ am 1 x8 ^^^ am 2 x12), am 11 (am 2 x1 ^^^ am 3 x5 ^^^ am 1 x9 ^^^ am 1 x13) ^^^ am 13 (am 1 x1 ^^^ am 2 x5 ^^^ am 3 x9 ^^^ am 1 x13) ^^^ am 9 (am 1 x1 ^^^ am 1 x5 ^^^ am 2 x9 ^^^ am 3 x13) ^^^ am 14 (am 3 x1 ^^^ am 1 x5 ^^^ am 1 x9 ^^^ am 2 x13), am 11 (am 2 x2 ^^^ am 3 x6 ^^^ am 1 x10 ^^^ am 1 x14) ^^^ am 13 (am 1 x2 ^^^ am 2 x6 ^^^ am 3 x10 ^^^ am 1 x14) ^^^ am 9 (am 1 x2 ^^^ am 1 x6 ^^^ am 2 x10 ^^^ am 3 x14) ^^^ am 14 (am 3 x2 ^^^ am 1 x6 ^^^ am 1 x10 ^^^ am 2 x14), am 11 (am 2 x3 ^^^ am 3 x7 ^^^ am 1 x11 ^^^ am 1 x15) ^^^ am 13 (am 1 x3 ^^^ am 2 x7 ^^^ am 3 x11 ^^^ am 1 x15) ^^^ am 9 (am 1 x3 ^^^ am 1 x7 ^^^ am 2 x11 ^^^ am 3 x15) ^^^ am 14 (am 3 x3 ^^^ am 1 x7 ^^^ am 1 x11 ^^^ am 2 x15)] = _
  simp only [am_add_right]
  refine congr (congrArg List.cons ?_) (congr (congrArg List.cons ?_) (congr (congrArg List.cons ?_) (congr (congrArg List.cons ?_) (congr (congrArg List.cons ?_) (congr (congrArg List.cons ?_) (congr (congrArg List.cons ?_) (congr (congrArg List.cons ?_) (congr (congrArg List.cons ?_) (congr (congrArg List.cons ?_) (congr (congrArg List.cons ?_) (congr (congrArg List.cons ?_) (congr (congrArg List.cons ?_) (congr (congrArg List.cons ?_) (congr (congrArg List.cons ?_) (congr (congrArg List.cons ?_) (rfl))))))))))))))))
  · rw [quad, um00 x0, um01 x4, um02 x8, um03 x12]
    rw [UInt8.xor_zero, UInt8.xor_zero, UInt8.xor_zero]
  · rw [quad, um00 x1, um01 x5, um02 x9, um03 x13]
    rw [UInt8.xor_zero, UInt8.xor_zero, UInt8.xor_zero]
  · rw [quad, um00 x2, um01 x6, um02 x10, um03 x14]
    rw [UInt8.xor_zero, UInt8.xor_zero, UInt8.xor_zero]
  · rw [quad, um00 x3, um01 x7, um02 x11, um03 x15]
    rw [UInt8.xor_zero, UInt8.xor_zero, UInt8.xor_zero]
  · rw [quad, um10 x0, um11 x4, um12 x8, um13 x12]
    rw [UInt8.zero_xor, UInt8.xor_zero, UInt8.xor_zero]
  · rw [quad, um10 x1, um11 x5, um12 x9, um13 x13]
    rw [UInt8.zero_xor, UInt8.xor_zero, UInt8.xor_zero]
  · rw [quad, um10 x2, um11 x6, um12 x10, um13 x14]
    rw [UInt8.zero_xor, UInt8.xor_zero, UInt8.xor_zero]
  · rw [quad, um10 x3, um11 x7, um12 x11, um13 x15]
    rw [UInt8.zero_xor, UInt8.xor_zero, UInt8.xor_zero]
  · rw [quad, um20 x0, um21 x4, um22 x8, um23 x12]
    rw [UInt8.zero_xor, UInt8.zero_xor, UInt8.xor_zero]
  · rw [quad, um20 x1, um21 x5, um22 x9, um23 x13]
    rw [UInt8.zero_xor, UInt8.zero_xor, UInt8.xor_zero]
  · rw [quad, um20 x2, um21 x6, um22 x10, um23 x14]
    rw [UInt8.zero_xor, UInt8.zero_xor, UInt8.xor_zero]
  · rw [quad, um20 x3, um21 x7, um22 x11, um23 x15]
    rw [UInt8.zero_xor, UInt8.zero_xor, UInt8.xor_zero]
  · rw [quad, um30 x0, um31 x4, um32 x8, um33 x12]
    rw [UInt8.zero_xor, UInt8.zero_xor, UInt8.zero_xor]
  · rw [quad, um30 x1, um31 x5, um32 x9, um33 x13]
    rw [UInt8.zero_xor, UInt8.zero_xor, UInt8.zero_xor]
  · rw [quad, um30 x2, um31 x6, um32 x10, um33 x14]
    rw [UInt8.zero_xor, UInt8.zero_xor, UInt8.zero_xor]
  · rw [quad, um30 x3, um31 x7, um32 x11, um33 x15]
    rw [UInt8.zero_xor, UInt8.zero_xor, UInt8.zero_xor]
set_option maxHeartbeats 2000000 in
theorem mix_unmix {l : List UInt8} (h : l.length = 16) : mixL [2, 3, 1, 1] (mixL [14, 11, 13, 9] l) = l := by
  obtain ⟨x0, x1, x2, x3, x4, x5, x6, x7, x8, x9, x10, x11, x12, x13, x14, x15, rfl⟩ := ex16 h
  show [am 2 (am 14 x0 ^^^ am 11 x4 ^^^ am 13 x8 ^^^ am 9 x12) ^^^ am 3 (am 9 x0 ^^^ am 14 x4 ^^^ am 11 x8 ^^^ am 13 x12) ^^^ am 1 (am 13 x0 ^^^ am 9 x4 ^^^ am 14 x8 ^^^ am 11 x12) ^^^ am 1 (am 11 x0 ^^^ am 13 x4 ^^^ am 9 x8 ^^^ am 14 x12), am 2 (am 14 x1 ^^^ am 11 x5 ^^^ am 13 x9 ^^^ am 9 x13) ^^^ am 3 (am 9 x1 ^^^ am 14 x5 ^^^ am 11 x9 ^^^ am 13 x13) ^^^ am 1 (am 13 x1 ^^^ am 9 x5 ^^^ am 14 x9 ^^^ am 11 x13) ^^^ am 1 (am 11 x1 ^^^ am 13 x5 ^^^ am 9 x9 ^^^ am 14 x13), am 2 (am 14 x2 ^^^ am 11 x6 ^^^ am 13 x10 ^^^ am 9 x14) ^^^ am 3 (am 9 x2 ^^^ am 14 x6 ^^^ am 11 x10 ^^^ am 13 x14) ^^^ am 1 (am 13 x2 ^^^ am 9 x6 ^^^ am 14 x10 ^^^ am 11 x14) ^^^ am 1 (am 11 x2 ^^^ am 13 x6 ^^^ am 9 x10 ^^^ am 14 x14), am 2 (am 14 x3 ^^^ am 11 x7 ^^^ am 13 x11 ^^^ am 9 x15) ^^^ am 3 (am 9 x3 ^^^ am 14 x7 ^^^ am 11 x11 ^^^ am 13 x15) ^^^ am 1 (am 13 x3 ^^^ am 9 x7 ^^^ am 14 x11 ^^^ am 11 x15) ^^^ am 1 (am 11 x3 ^^^ am 13 x7 ^^^ am 9 x11 ^^^ am 14 x15), am 1 (am 14 x0 ^^^ am 11 x4 ^^^ am 13 x8 ^^^ am 9 x12) ^^^ am 2 (am 9 x0 ^^^ am 14 x4 ^^^ am 11 x8 ^^^ am 13 x12) ^^^ am 3 (am 13 x0 ^^^ am 9 x4 ^^^ am 14 x8 ^^^ am 11 x12) ^^^ am 1 (am 11 x0 ^^^ am 13 x4 ^^^ am 9 x8 ^^^ am 14 x12), am 1 (am 14 x1 ^^^ am 11 x5 ^^^ am 13 x9 ^^^ am 9 x13) ^^^ am 2 (am 9 x1 ^^^ am 14 x5 ^^^ am 11 x9 ^^^ am 13 x13) ^^^ am 3 (am 13 x1 ^^^ am 9 x5 ^^^ am 14 x9 ^^^ am 11 x13) ^^^ am 1 (am 11 x1 ^^^ am 13 x5 ^^^ am 9 x9 ^^^ am 14 x13), am 1 (am 14 x2 ^^^ am 11 x6 ^^^ am 13 x10 ^^^ am 9 x14) ^^^ am 2 (am 9 x2 ^^^ am 14 x6 ^^^ am 11 x10 ^^^ am 13 x14) ^^^ am 3 (am 13 x2 ^^^ am 9 x6 ^^^ am 14 x10 ^^^ am 11 x14) ^^^ am 1 (am 11 x2 ^^^ am 13 x6 ^^^ am 9 x10 ^^^ am 14 x14), am 1 (am 14 x3 ^^^ am 11 x7 ^^^ am 13 x11 ^^^ am 9 x15) ^^^ am 2 (am 9 x3 ^^^ am 14 x7 ^^^ am 11 x11 ^^^ am 13 x15) ^^^ am 3 (am 13 x3 ^^^ am 9 x7 ^^^ am 14 x11 ^^^ am 11 x15) ^^^ am 1 (am 11 x3 ^^^ am 13 x7 ^^^ am 9 x11 ^^^ am 14 x15), am 1 (am 14 x0 ^^^ am 11 x4 ^^^ am 13 x8 ^^^ am 9 x12) ^^^ am 1 (am 9 x0 ^^^ am 14 x4 ^^^ am 11 x8 ^^^ am 13 x12) ^^^ am 2 (am 13 x0 ^^^ am 9 x4 ^^^ am 14 x8 ^^^ am 11 x12) ^^^ am 3 (am 11 x0 ^^^ am 13 x4 ^^^ am 9 x8 ^^^ am 14 x12), am 1 (am 14 x1 ^^^ am 11 x5 ^^^ am 13 x9 ^^^ am 9 x13) ^^^ am 1 (am 9 x1 ^^^ am 14 x5 ^^^ am 11 x9 ^^^ am 13 x13) ^^^ am 2 (am 13 x1 ^^^ am 9 x5 ^^^ am 14 x9 ^^^ am 11 x13) ^^^ am 3 (am 11 x1 ^^^ am 13 x5 ^^^ am 9 x9 ^^^ am 14 x13), am 1 (am 14 x2 ^^^ am 11 x6 ^^^ am 13 x10 ^^^ am 9 x14) ^^^ am 1 (am 9 x2 ^^^ am 14 x6 ^^^ am 11 x10 ^^^ am 13 x14) ^^^ am 2 (am 13 x2 ^^^ am 9 x6 ^^^ am 14 x10 ^^^ am 11 x14) ^^^ am 3 (am 11 x2 ^^^ am 13 x6 ^^^ am 9 x10 ^^^ am 14 x14), am 1 (am 14 x3 ^^^ am 11 x7 ^^^ am 13 x11 ^^^ am 9 x15) ^^^ am 1 (am 9 x3 ^^^ am 14 x7 ^^^ am 11 x11 ^^^ am 13 x15) ^^^ am 2 (am 13 x3 ^^^ am 9 x7 ^^^ am 14 x11 ^^^ am 11 x15) ^^^ am 3 (am 11 x3 ^^^ am 13 x7 ^^^ am 9 x11 ^^^ am 14 x15), am 3 (am 14 x0 ^^^ am 11 x4 ^^^ am 13 x8 ^^^ am 9 x12) ^^^ am 1 (am 9 x0 ^^^ am 14 x4 ^^^ am 11 x8 ^^^ am 13 x12) ^^^ am 1 (am 13 x0 ^^^ am 9 x4 ^^^ am 14 x8 ^^^ am 11 x12) ^^^ am 2 (am 11 x0 ^^^ am 13 x4 ^^^ am 9 x8 ^^^ am 14 x12), am 3 (am 14 x1 ^^^ am 11 x5 ^^^ am 13 x9 ^^^ am 9 x13) ^^^ am 1 (am 9 x1 ^^^ am 14 x5 ^^^ am 11 x9 ^^^ am 13 x13) ^^^ am 1 (am 13 x1 ^^^ am 9 x5 ^^^ am 14 x9 ^^^ am 11 x13) ^^^ am 2 (am 11 x1 ^^^ am 13 x5 ^^^ am 9 x9 ^^^ am 14 x13), am 3 (am 14 x2 ^^^ am 11 x6 ^^^ am 13 x10 ^^^ am 9 x14) ^^^ am 1 (am 9 x2 ^^^ am 14 x6 ^^^ am 11 x10 ^^^ am 13 x14) ^^^ am 1 (am 13 x2 ^^^ am 9 x6 ^^^ am 14 x10 ^^^ am 11 x14) ^^^ am 2 (am 11 x2 ^^^ am 13 x6 ^^^ am 9 x10 ^^^ am 14 x14), am 3 (am 14 x3 ^^^ am 11 x7 ^^^ am 13 x11 ^^^ am 9 x15) ^^^ am 1 (am 9 x3 ^^^ am 14 x7 ^^^ am 11 x11 ^^^ am 13 x15) ^^^ am 1 (am 13 x3 ^^^ am 9 x7 ^^^ am 14 x11 ^^^ am 11 x15) ^^^ am 2 (am 11 x3 ^^^ am 13 x7 ^^^ am 9 x11 ^^^ am 14 x15)] = _
  simp only [am_add_right]
  refine congr (congrArg List.cons ?_) (congr (congrArg List.cons ?_) (congr (congrArg List.cons ?_) (congr (congrArg List.cons ?_) (congr (congrArg List.cons ?_) (congr (congrArg List.cons ?_) (congr (congrArg List.cons ?_) (congr (congrArg List.cons ?_) (congr (congrArg List.cons ?_) (congr (congrArg List.cons ?_) (congr (congrArg List.cons ?_) (congr (congrArg List.cons ?_) (congr (congrArg List.cons ?_) (congr (congrArg List.cons ?_) (congr (congrArg List.cons ?_) (congr (congrArg List.cons ?_) (rfl))))))))))))))))
  · rw [quad, mu00 x0, mu01 x4, mu02 x8, mu03 x12]
    rw [UInt8.xor_zero, UInt8.xor_zero, UInt8.xor_zero]
  · rw [quad, mu00 x1, mu01 x5, mu02 x9, mu03 x13]
    rw [UInt8.xor_zero, UInt8.xor_zero, UInt8.xor_zero]
  · rw [quad, mu00 x2, mu01 x6, mu02 x10, mu03 x14]
    rw [UInt8.xor_zero, UInt8.xor_zero, UInt8.xor_zero]
  · rw [quad, mu00 x3, mu01 x7, mu02 x11, mu03 x15]
    rw [UInt8.xor_zero, UInt8.xor_zero, UInt8.xor_zero]
  · rw [quad, mu10 x0, mu11 x4, mu12 x8, mu13 x12]
    rw [UInt8.zero_xor, UInt8.xor_zero, UInt8.xor_zero]
  · rw [quad, mu10 x1, mu11 x5, mu12 x9, mu13 x13]
    rw [UInt8.zero_xor, UInt8.xor_zero, UInt8.xor_zero]
  · rw [quad, mu10 x2, mu11 x6, mu12 x10, mu13 x14]
    rw [UInt8.zero_xor, UInt8.xor_zero, UInt8.xor_zero]
  · rw [quad, mu10 x3, mu11 x7, mu12 x11, mu13 x15]
    rw [UInt8.zero_xor, UInt8.xor_zero, UInt8.xor_zero]
  · rw [quad, mu20 x0, mu21 x4, mu22 x8, mu23 x12]
    rw [UInt8.zero_xor, UInt8.zero_xor, UInt8.xor_zero]
  · rw [quad, mu20 x1, mu21 x5, mu22 x9, mu23 x13]
    rw [UInt8.zero_xor, UInt8.zero_xor, UInt8.xor_zero]
  · rw [quad, mu20 x2, mu21 x6, mu22 x10, mu23 x14]
    rw [UInt8.zero_xor, UInt8.zero_xor, UInt8.xor_zero]
  · rw [quad, mu20 x3, mu21 x7, mu22 x11, mu23 x15]
    rw [UInt8.zero_xor, UInt8.zero_xor, UInt8.xor_zero]
  · rw [quad, mu30 x0, mu31 x4, mu32 x8, mu33 x12]
    rw [UInt8.zero_xor, UInt8.zero_xor, UInt8.zero_xor]
  · rw [quad, mu30 x1, mu31 x5, mu32 x9, mu33 x13]
    rw [UInt8.zero_xor, UInt8.zero_xor, UInt8.zero_xor]
  · rw [quad, mu30 x2, mu31 x6, mu32 x10, mu33 x14]
    rw [UInt8.zero_xor, UInt8.zero_xor, UInt8.zero_xor]
  · rw [quad, mu30 x3, mu31 x7, mu32 x11, mu33 x15]
    rw [UInt8.zero_xor, UInt8.zero_xor, UInt8.zero_xor]
theorem map_back (f g : UInt8 → UInt8) (h : ∀ x, g (f x) = x) (l : List UInt8) : (l.map f).map g = l := by
  rw [List.map_map]
  conv => rhs; rw [← List.map_id l]
  exact List.map_congr_left fun x _ => h x
theorem sub_ne (x : UInt8) : asub x ≠ x := by
  have := all256 (p := fun x => !(asub x == x)) (by decide +kernel) x
  simpa using this
theorem sub_ne' (x : UInt8) : asub x ≠ 255 ^^^ x := by
  have := all256 (p := fun x => !(asub x == 255 ^^^ x)) (by decide +kernel) x
  simpa using this
theorem subV {x : Int} {a r : UInt8} (w : World) (hx : (a.toNat : Int) = x) (hr : asub a = r) : Calls Try.prog 18 #[.int .u8 x] w fun e w' => e = .returned (.int .u8 (r.toNat : Int)) ∧ w = w' := by
  rw [← hr]; exact sub_i x a w hx
theorem unsubV {x : Int} {a r : UInt8} (w : World) (hx : (a.toNat : Int) = x) (hr : aunsub a = r) : Calls Try.prog 20 #[.int .u8 x] w fun e w' => e = .returned (.int .u8 (r.toNat : Int)) ∧ w = w' := by
  rw [← hr]; exact unsub_i x a w hx

set_option maxRecDepth 100000 in
set_option maxHeartbeats 4000000 in
theorem back_walk (s b : List UInt8) (x : UInt8) (hs : s.length = 16) (hb : b.length = 16) (w : World) :
    Calls Try.prog 9 #[aggB s, aggB b, .int .u8 (x.toNat : Int)] w fun e w' => e = .returned (.bool true) ∧ w.grownBy w' none := by
  have hi1 : (Try.prog.info? 33).map (·.size) = some s.length := by rw [size_state, hs]
  have hi2 : (Try.prog.info? 27).map (·.size) = some b.length := by rw [size_block, hb]
  have hm1 : Try.prog.eqGuardType Try.prog.depth 33 = false := by kernel_rfl
  have hm2 : Try.prog.eqGuardType Try.prog.depth 27 = false := by kernel_rfl
  have HK : Hid (∀ w1 w2, ((fun w' => w.grownBy w' none ∧ w'.rangeAt w.heap.size 0 (s.map bval) ∧ w'.rangeAt (w.heap.size + 1) 0 (b.map bval)) : World → Prop) w1 → w1.grownBy w2 none → ((fun w' => w.grownBy w' none ∧ w'.rangeAt w.heap.size 0 (s.map bval) ∧ w'.rangeAt (w.heap.size + 1) 0 (b.map bval)) : World → Prop) w2) := fun w1 w2 h hg => keep2 hg h
  have QN := Lib.hid (fun w1 : World => nsame_state s hs w1)
  have QS := Lib.hid (fun w1 : World => same_state s hs w1)
  have QB := Lib.hid (fun w1 : World => same_block b hb w1)
  obtain ⟨r1, e1⟩ : ∃ r, r = s.map asub := ⟨_, rfl⟩
  have l1 : r1.length = 16 := by rw [e1]; exact map_len asub hs
  have A1 : Hid (∀ w, Calls Try.prog 28 #[.agg (cellsB s)] w fun e w' => e = .returned (.agg (cellsB r1)) ∧ w.grownBy w' none) := Lib.hid (fun w => by rw [e1]; exact subAll_n _ hs w)
  have B1 : Hid (∀ w, Calls Try.prog 30 #[.agg (cellsB r1)] w fun e w' => e = .returned (.agg (cellsB s)) ∧ w.grownBy w' none) := Lib.hid (fun w => by have h := unsubAll_n r1 l1 w; rw [e1, map_back asub aunsub un_sub s] at h; rw [e1]; exact h)
  clear e1 l1
  obtain ⟨r2, e2⟩ : ∃ r, r = s.map aunsub := ⟨_, rfl⟩
  have l2 : r2.length = 16 := by rw [e2]; exact map_len aunsub hs
  have A2 : Hid (∀ w, Calls Try.prog 30 #[.agg (cellsB s)] w fun e w' => e = .returned (.agg (cellsB r2)) ∧ w.grownBy w' none) := Lib.hid (fun w => by rw [e2]; exact unsubAll_n _ hs w)
  have B2 : Hid (∀ w, Calls Try.prog 28 #[.agg (cellsB r2)] w fun e w' => e = .returned (.agg (cellsB s)) ∧ w.grownBy w' none) := Lib.hid (fun w => by have h := subAll_n r2 l2 w; rw [e2, map_back aunsub asub sub_un s] at h; rw [e2]; exact h)
  clear e2 l2
  obtain ⟨r3, e3⟩ : ∃ r, r = shL s := ⟨_, rfl⟩
  have l3 : r3.length = 16 := by rw [e3]; exact shL_len hs
  have A3 : Hid (∀ w, Calls Try.prog 32 #[.agg (cellsB s)] w fun e w' => e = .returned (.agg (cellsB r3)) ∧ w.grownBy w' none) := Lib.hid (fun w => by rw [e3]; exact shift_n _ hs w)
  have B3 : Hid (∀ w, Calls Try.prog 34 #[.agg (cellsB r3)] w fun e w' => e = .returned (.agg (cellsB s)) ∧ w.grownBy w' none) := Lib.hid (fun w => by have h := unshift_n r3 l3 w; rw [e3, unsh_sh hs] at h; rw [e3]; exact h)
  clear e3 l3
  obtain ⟨r4, e4⟩ : ∃ r, r = unshL s := ⟨_, rfl⟩
  have l4 : r4.length = 16 := by rw [e4]; exact unshL_len hs
  have A4 : Hid (∀ w, Calls Try.prog 34 #[.agg (cellsB s)] w fun e w' => e = .returned (.agg (cellsB r4)) ∧ w.grownBy w' none) := Lib.hid (fun w => by rw [e4]; exact unshift_n _ hs w)
  have B4 : Hid (∀ w, Calls Try.prog 32 #[.agg (cellsB r4)] w fun e w' => e = .returned (.agg (cellsB s)) ∧ w.grownBy w' none) := Lib.hid (fun w => by have h := shift_n r4 l4 w; rw [e4, sh_unsh hs] at h; rw [e4]; exact h)
  clear e4 l4
  obtain ⟨r5, e5⟩ : ∃ r, r = mixL [2, 3, 1, 1] s := ⟨_, rfl⟩
  have l5 : r5.length = 16 := by rw [e5]; exact mixL_len rfl hs
  have A5 : Hid (∀ w, Calls Try.prog 36 #[.agg (cellsB s)] w fun e w' => e = .returned (.agg (cellsB r5)) ∧ w.grownBy w' none) := Lib.hid (fun w => by rw [e5]; exact mix_n _ hs w)
  have B5 : Hid (∀ w, Calls Try.prog 38 #[.agg (cellsB r5)] w fun e w' => e = .returned (.agg (cellsB s)) ∧ w.grownBy w' none) := Lib.hid (fun w => by have h := unmix_n r5 l5 w; rw [e5, unmix_mix hs] at h; rw [e5]; exact h)
  clear e5 l5
  obtain ⟨r6, e6⟩ : ∃ r, r = mixL [14, 11, 13, 9] s := ⟨_, rfl⟩
  have l6 : r6.length = 16 := by rw [e6]; exact mixL_len rfl hs
  have A6 : Hid (∀ w, Calls Try.prog 38 #[.agg (cellsB s)] w fun e w' => e = .returned (.agg (cellsB r6)) ∧ w.grownBy w' none) := Lib.hid (fun w => by rw [e6]; exact unmix_n _ hs w)
  have B6 : Hid (∀ w, Calls Try.prog 36 #[.agg (cellsB r6)] w fun e w' => e = .returned (.agg (cellsB s)) ∧ w.grownBy w' none) := Lib.hid (fun w => by have h := mix_n r6 l6 w; rw [e6, mix_unmix hs] at h; rw [e6]; exact h)
  clear e6 l6
  obtain ⟨r7, e7⟩ : ∃ r, r = trL b := ⟨_, rfl⟩
  have l7 : r7.length = 16 := by rw [e7]; exact trL_len hb
  have A7 : Hid (∀ w, Calls Try.prog 24 #[.agg (cellsB b)] w fun e w' => e = .returned (.agg (cellsB r7)) ∧ w.grownBy w' none) := Lib.hid (fun w => by rw [e7]; exact spread_n _ hb w)
  have B7 : Hid (∀ w, Calls Try.prog 26 #[.agg (cellsB r7)] w fun e w' => e = .returned (.agg (cellsB b)) ∧ w.grownBy w' none) := Lib.hid (fun w => by have h := gather_n r7 l7 w; rw [e7, tr_tr hb] at h; rw [e7]; exact h)
  clear e7 l7
  obtain ⟨r8, e8⟩ : ∃ r, r = trL s := ⟨_, rfl⟩
  have l8 : r8.length = 16 := by rw [e8]; exact trL_len hs
  have A8 : Hid (∀ w, Calls Try.prog 26 #[.agg (cellsB s)] w fun e w' => e = .returned (.agg (cellsB r8)) ∧ w.grownBy w' none) := Lib.hid (fun w => by rw [e8]; exact gather_n _ hs w)
  have B8 : Hid (∀ w, Calls Try.prog 24 #[.agg (cellsB r8)] w fun e w' => e = .returned (.agg (cellsB s)) ∧ w.grownBy w' none) := Lib.hid (fun w => by have h := spread_n r8 l8 w; rw [e8, tr_tr hs] at h; rw [e8]; exact h)
  clear e8 l8
  obtain ⟨h1, h2, h3⟩ := two w s b 33 27
  have HS0 := Lib.hid (And.intro h3 (And.intro h1.range h2.range))
  clear h1 h2 h3
  obtain ⟨y, hy⟩ : ∃ y, y = asub x := ⟨_, rfl⟩
  obtain ⟨z, hz⟩ : ∃ z, z = aunsub x := ⟨_, rfl⟩
  have Y1 := Lib.hid hy.symm
  have Y2 := Lib.hid (show aunsub y = x by rw [hy, un_sub])
  have Z1 := Lib.hid hz.symm
  have Z2 := Lib.hid (show asub z = x by rw [hz, sub_un])
  have n1 : ((y.toNat : Int) == (x.toNat : Int)) = false := by rw [u8_beq]; simpa [hy] using sub_ne x
  have hb5 : bits .xor .u8 (255 : Int) (x.toNat : Int) = (((255 : UInt8) ^^^ x).toNat : Int) := xor_u8 255 x
  have n2 : ((y.toNat : Int) == bits .xor .u8 255 (x.toNat : Int)) = false := by rw [hb5, u8_beq]; simpa [hy] using sub_ne' x
  have n3 : ((y.toNat : Int) == bits .xor .u8 (if IntKind.u8.signed = true then -1 else IntKind.u8.max) (x.toNat : Int)) = false := n2
  have n4 : ((y.toNat : Int) == bits .xor .u8 IntKind.u8.max (x.toNat : Int)) = false := n2
  clear hb5
  have n1' : (y.toNat : Int) ≠ (x.toNat : Int) := by simpa using n1
  clear hy hz
  unfold aggB
  go_enter Try.func9, Try.ntmps9
  go_wp2_with fail
  refine (subV _ rfl Y1.out).mono ?_
  rintro e w' ⟨rfl, rfl⟩
  go_wp2_with fail
  refine (unsubV _ rfl Y2.out).mono ?_
  rintro e w' ⟨rfl, rfl⟩
  go_wp2_with fail
  refine (unsubV _ rfl Z1.out).mono ?_
  rintro e w' ⟨rfl, rfl⟩
  go_wp2_with fail
  refine (subV _ rfl Z2.out).mono ?_
  rintro e w' ⟨rfl, rfl⟩
  go_wp2_with fail
  refine (subV _ rfl Y1.out).mono ?_
  rintro e w' ⟨rfl, rfl⟩
  go_wp2_with fail
  refine (subV _ rfl Y1.out).mono ?_
  rintro e w' ⟨rfl, rfl⟩
  go_upto_region 3 with fail
  refine wp_regionS (fun w' => w.grownBy w' none ∧ w'.rangeAt w.heap.size 0 (s.map bval) ∧ w'.rangeAt (w.heap.size + 1) 0 (b.map bval)) (by kernel_rfl) (keep2d HS0.out) ?_
  refine wpS_take 0 (oi := { dst := some 32, op := Op.load 33 (Operand.tmp 3), type := 33, pos := "outright.go:95", after := #[], guard := none }) rfl (by kernel_rfl) (by kernel_rfl) (by kernel_rfl) (fun _ _ _ h => h) (YS.rowB (by rfl) _ _ rfl _ rfl s _ (fun _ h => h.2.1) Try.underlying33 rfl hi1) ?_
  simp only [Act.put, List.setIfInBounds_toArray, List.set_cons_zero, List.set_cons_succ]
  refine wpS_take 1 (oi := { dst := some 33, op := Op.call { callee := Callee.value (Operand.func 28), args := #[Operand.tmp 32], argTypes := #[33] }, type := 33, pos := "outright.go:95", after := #[{ on := 0, ground := Ground.data }], guard := none }) rfl (by kernel_rfl) (by kernel_rfl) (by kernel_rfl) (fun _ _ _ h => h) (YS.grow (f := 28) (args := #[.agg (cellsB s)]) (by rfl) (fun w => by go_simp) HK.out A1.out) ?_
  simp only [Act.put, List.setIfInBounds_toArray, List.set_cons_zero, List.set_cons_succ]
  refine wpS_take 2 (oi := { dst := some 34, op := Op.call { callee := Callee.value (Operand.func 30), args := #[Operand.tmp 33], argTypes := #[33] }, type := 33, pos := "outright.go:95", after := #[{ on := 1, ground := Ground.data }, { on := 1, ground := Ground.chain }], guard := none }) rfl (by kernel_rfl) (by kernel_rfl) (by kernel_rfl) (fun _ _ _ h => h) (YS.grow (f := 30) (args := #[.agg (cellsB r1)]) (by rfl) (fun w => by go_simp) HK.out B1.out) ?_
  simp only [Act.put, List.setIfInBounds_toArray, List.set_cons_zero, List.set_cons_succ]
  refine wpS_take 3 (oi := { dst := some 35, op := Op.load 33 (Operand.tmp 3), type := 33, pos := "outright.go:95", after := #[], guard := none }) rfl (by kernel_rfl) (by kernel_rfl) (by kernel_rfl) (fun _ _ _ h => h) (YS.rowB (by rfl) _ _ rfl _ rfl s _ (fun _ h => h.2.1) Try.underlying33 rfl hi1) ?_
  simp only [Act.put, List.setIfInBounds_toArray, List.set_cons_zero, List.set_cons_succ]
  refine wpS_take 4 (v := .bool false) (oi := { dst := some 36, op := Op.binOp BinOp.neq 33 (Operand.tmp 34) (Operand.tmp 35) 33, type := 4, pos := "outright.go:95", after := #[{ on := 2, ground := Ground.data }, { on := 3, ground := Ground.data }], guard := none }) rfl (by kernel_rfl) (by kernel_rfl) (by kernel_rfl) (fun _ _ _ h => h) (YS.val (by rfl) (fun w _ => by have q := QN.out; go_simp)) ?_
  simp only [Act.put, List.setIfInBounds_toArray, List.set_cons_zero, List.set_cons_succ]
  refine wpS_take 5 (oi := { dst := some 37, op := Op.move (Operand.tmp 36), type := 4, pos := "outright.go:95", after := #[{ on := 4, ground := Ground.data }, { on := 2, ground := Ground.chain }], guard := none }) rfl (by kernel_rfl) (by kernel_rfl) (by kernel_rfl) (fun _ _ _ h => h) (YS.val (by rfl) (fun _ _ => rfl)) ?_
  simp only [Act.put, List.setIfInBounds_toArray, List.set_cons_zero, List.set_cons_succ]
  refine wpS_take 6 (oi := { dst := some 38, op := Op.load 33 (Operand.tmp 3), type := 33, pos := "outright.go:95", after := #[{ on := 5, ground := Ground.guard }], guard := some (5, false) }) rfl (by kernel_rfl) (by kernel_rfl) (by kernel_rfl) (fun _ _ _ h => h) (YS.rowB (by rfl) _ _ rfl _ rfl s _ (fun _ h => h.2.1) Try.underlying33 rfl hi1) ?_
  simp only [Act.put, List.setIfInBounds_toArray, List.set_cons_zero, List.set_cons_succ]
  refine wpS_take 7 (oi := { dst := some 39, op := Op.call { callee := Callee.value (Operand.func 30), args := #[Operand.tmp 38], argTypes := #[33] }, type := 33, pos := "outright.go:95", after := #[{ on := 6, ground := Ground.data }, { on := 5, ground := Ground.chain }, { on := 5, ground := Ground.guard }], guard := some (5, false) }) rfl (by kernel_rfl) (by kernel_rfl) (by kernel_rfl) (fun _ _ _ h => h) (YS.grow (f := 30) (args := #[.agg (cellsB s)]) (by rfl) (fun w => by go_simp) HK.out A2.out) ?_
  simp only [Act.put, List.setIfInBounds_toArray, List.set_cons_zero, List.set_cons_succ]
  refine wpS_take 8 (oi := { dst := some 40, op := Op.call { callee := Callee.value (Operand.func 28), args := #[Operand.tmp 39], argTypes := #[33] }, type := 33, pos := "outright.go:95", after := #[{ on := 7, ground := Ground.data }, { on := 7, ground := Ground.chain }, { on := 5, ground := Ground.guard }], guard := some (5, false) }) rfl (by kernel_rfl) (by kernel_rfl) (by kernel_rfl) (fun _ _ _ h => h) (YS.grow (f := 28) (args := #[.agg (cellsB r2)]) (by rfl) (fun w => by go_simp) HK.out B2.out) ?_
  simp only [Act.put, List.setIfInBounds_toArray, List.set_cons_zero, List.set_cons_succ]
  refine wpS_take 9 (oi := { dst := some 41, op := Op.load 33 (Operand.tmp 3), type := 33, pos := "outright.go:95", after := #[{ on := 5, ground := Ground.guard }], guard := some (5, false) }) rfl (by kernel_rfl) (by kernel_rfl) (by kernel_rfl) (fun _ _ _ h => h) (YS.rowB (by rfl) _ _ rfl _ rfl s _ (fun _ h => h.2.1) Try.underlying33 rfl hi1) ?_
  simp only [Act.put, List.setIfInBounds_toArray, List.set_cons_zero, List.set_cons_succ]
  refine wpS_take 10 (v := .bool false) (oi := { dst := some 42, op := Op.binOp BinOp.neq 33 (Operand.tmp 40) (Operand.tmp 41) 33, type := 4, pos := "outright.go:95", after := #[{ on := 8, ground := Ground.data }, { on := 9, ground := Ground.data }, { on := 5, ground := Ground.guard }], guard := some (5, false) }) rfl (by kernel_rfl) (by kernel_rfl) (by kernel_rfl) (fun _ _ _ h => h) (YS.val (by rfl) (fun w _ => by have q := QN.out; go_simp)) ?_
  simp only [Act.put, List.setIfInBounds_toArray, List.set_cons_zero, List.set_cons_succ]
  refine wpS_take 11 (oi := { dst := some 43, op := Op.pick (Operand.tmp 37) (Operand.const (Value.bool true)) (Operand.tmp 42), type := 4, pos := "outright.go:95", after := #[{ on := 5, ground := Ground.data }, { on := 10, ground := Ground.data }], guard := none }) rfl (by kernel_rfl) (by kernel_rfl) (by kernel_rfl) (fun _ _ _ h => h) (YS.val (by rfl) (fun _ _ => rfl)) ?_
  simp only [Act.put, List.setIfInBounds_toArray, List.set_cons_zero, List.set_cons_succ]
  refine wpS_take 12 (oi := { dst := some 44, op := Op.move (Operand.tmp 43), type := 4, pos := "outright.go:95", after := #[{ on := 11, ground := Ground.data }, { on := 8, ground := Ground.chain }], guard := none }) rfl (by kernel_rfl) (by kernel_rfl) (by kernel_rfl) (fun _ _ _ h => h) (YS.val (by rfl) (fun _ _ => rfl)) ?_
  simp only [Act.put, List.setIfInBounds_toArray, List.set_cons_zero, List.set_cons_succ]
  refine wpS_take 13 (oi := { dst := some 45, op := Op.load 33 (Operand.tmp 3), type := 33, pos := "outright.go:95", after := #[{ on := 12, ground := Ground.guard }], guard := some (12, false) }) rfl (by kernel_rfl) (by kernel_rfl) (by kernel_rfl) (fun _ _ _ h => h) (YS.rowB (by rfl) _ _ rfl _ rfl s _ (fun _ h => h.2.1) Try.underlying33 rfl hi1) ?_
  simp only [Act.put, List.setIfInBounds_toArray, List.set_cons_zero, List.set_cons_succ]
  refine wpS_take 14 (oi := { dst := some 46, op := Op.call { callee := Callee.value (Operand.func 32), args := #[Operand.tmp 45], argTypes := #[33] }, type := 33, pos := "outright.go:95", after := #[{ on := 13, ground := Ground.data }, { on := 12, ground := Ground.chain }, { on := 12, ground := Ground.guard }], guard := some (12, false) }) rfl (by kernel_rfl) (by kernel_rfl) (by kernel_rfl) (fun _ _ _ h => h) (YS.grow (f := 32) (args := #[.agg (cellsB s)]) (by rfl) (fun w => by go_simp) HK.out A3.out) ?_
  simp only [Act.put, List.setIfInBounds_toArray, List.set_cons_zero, List.set_cons_succ]
  refine wpS_take 15 (oi := { dst := some 47, op := Op.call { callee := Callee.value (Operand.func 34), args := #[Operand.tmp 46], argTypes := #[33] }, type := 33, pos := "outright.go:95", after := #[{ on := 14, ground := Ground.data }, { on := 14, ground := Ground.chain }, { on := 12, ground := Ground.guard }], guard := some (12, false) }) rfl (by kernel_rfl) (by kernel_rfl) (by kernel_rfl) (fun _ _ _ h => h) (YS.grow (f := 34) (args := #[.agg (cellsB r3)]) (by rfl) (fun w => by go_simp) HK.out B3.out) ?_
  simp only [Act.put, List.setIfInBounds_toArray, List.set_cons_zero, List.set_cons_succ]
  refine wpS_take 16 (oi := { dst := some 48, op := Op.load 33 (Operand.tmp 3), type := 33, pos := "outright.go:95", after := #[{ on := 12, ground := Ground.guard }], guard := some (12, false) }) rfl (by kernel_rfl) (by kernel_rfl) (by kernel_rfl) (fun _ _ _ h => h) (YS.rowB (by rfl) _ _ rfl _ rfl s _ (fun _ h => h.2.1) Try.underlying33 rfl hi1) ?_
  simp only [Act.put, List.setIfInBounds_toArray, List.set_cons_zero, List.set_cons_succ]
  refine wpS_take 17 (v := .bool false) (oi := { dst := some 49, op := Op.binOp BinOp.neq 33 (Operand.tmp 47) (Operand.tmp 48) 33, type := 4, pos := "outright.go:95", after := #[{ on := 15, ground := Ground.data }, { on := 16, ground := Ground.data }, { on := 12, ground := Ground.guard }], guard := some (12, false) }) rfl (by kernel_rfl) (by kernel_rfl) (by kernel_rfl) (fun _ _ _ h => h) (YS.val (by rfl) (fun w _ => by have q := QN.out; go_simp)) ?_
  simp only [Act.put, List.setIfInBounds_toArray, List.set_cons_zero, List.set_cons_succ]
  refine wpS_take 18 (oi := { dst := some 50, op := Op.pick (Operand.tmp 44) (Operand.const (Value.bool true)) (Operand.tmp 49), type := 4, pos := "outright.go:95", after := #[{ on := 12, ground := Ground.data }, { on := 17, ground := Ground.data }], guard := none }) rfl (by kernel_rfl) (by kernel_rfl) (by kernel_rfl) (fun _ _ _ h => h) (YS.val (by rfl) (fun _ _ => rfl)) ?_
  simp only [Act.put, List.setIfInBounds_toArray, List.set_cons_zero, List.set_cons_succ]
  refine wpS_take 19 (oi := { dst := some 51, op := Op.move (Operand.tmp 50), type := 4, pos := "outright.go:95", after := #[{ on := 18, ground := Ground.data }, { on := 15, ground := Ground.chain }], guard := none }) rfl (by kernel_rfl) (by kernel_rfl) (by kernel_rfl) (fun _ _ _ h => h) (YS.val (by rfl) (fun _ _ => rfl)) ?_
  simp only [Act.put, List.setIfInBounds_toArray, List.set_cons_zero, List.set_cons_succ]
  refine wpS_take 20 (oi := { dst := some 52, op := Op.load 33 (Operand.tmp 3), type := 33, pos := "outright.go:95", after := #[{ on := 19, ground := Ground.guard }], guard := some (19, false) }) rfl (by kernel_rfl) (by kernel_rfl) (by kernel_rfl) (fun _ _ _ h => h) (YS.rowB (by rfl) _ _ rfl _ rfl s _ (fun _ h => h.2.1) Try.underlying33 rfl hi1) ?_
  simp only [Act.put, List.setIfInBounds_toArray, List.set_cons_zero, List.set_cons_succ]
  refine wpS_take 21 (oi := { dst := some 53, op := Op.call { callee := Callee.value (Operand.func 34), args := #[Operand.tmp 52], argTypes := #[33] }, type := 33, pos := "outright.go:95", after := #[{ on := 20, ground := Ground.data }, { on := 19, ground := Ground.chain }, { on := 19, ground := Ground.guard }], guard := some (19, false) }) rfl (by kernel_rfl) (by kernel_rfl) (by kernel_rfl) (fun _ _ _ h => h) (YS.grow (f := 34) (args := #[.agg (cellsB s)]) (by rfl) (fun w => by go_simp) HK.out A4.out) ?_
  simp only [Act.put, List.setIfInBounds_toArray, List.set_cons_zero, List.set_cons_succ]
  refine wpS_take 22 (oi := { dst := some 54, op := Op.call { callee := Callee.value (Operand.func 32), args := #[Operand.tmp 53], argTypes := #[33] }, type := 33, pos := "outright.go:95", after := #[{ on := 21, ground := Ground.data }, { on := 21, ground := Ground.chain }, { on := 19, ground := Ground.guard }], guard := some (19, false) }) rfl (by kernel_rfl) (by kernel_rfl) (by kernel_rfl) (fun _ _ _ h => h) (YS.grow (f := 32) (args := #[.agg (cellsB r4)]) (by rfl) (fun w => by go_simp) HK.out B4.out) ?_
  simp only [Act.put, List.setIfInBounds_toArray, List.set_cons_zero, List.set_cons_succ]
  refine wpS_take 23 (oi := { dst := some 55, op := Op.load 33 (Operand.tmp 3), type := 33, pos := "outright.go:95", after := #[{ on := 19, ground := Ground.guard }], guard := some (19, false) }) rfl (by kernel_rfl) (by kernel_rfl) (by kernel_rfl) (fun _ _ _ h => h) (YS.rowB (by rfl) _ _ rfl _ rfl s _ (fun _ h => h.2.1) Try.underlying33 rfl hi1) ?_
  simp only [Act.put, List.setIfInBounds_toArray, List.set_cons_zero, List.set_cons_succ]
  refine wpS_take 24 (v := .bool false) (oi := { dst := some 56, op := Op.binOp BinOp.neq 33 (Operand.tmp 54) (Operand.tmp 55) 33, type := 4, pos := "outright.go:95", after := #[{ on := 22, ground := Ground.data }, { on := 23, ground := Ground.data }, { on := 19, ground := Ground.guard }], guard := some (19, false) }) rfl (by kernel_rfl) (by kernel_rfl) (by kernel_rfl) (fun _ _ _ h => h) (YS.val (by rfl) (fun w _ => by have q := QN.out; go_simp)) ?_
  simp only [Act.put, List.setIfInBounds_toArray, List.set_cons_zero, List.set_cons_succ]
  refine wpS_take 25 (oi := { dst := some 57, op := Op.pick (Operand.tmp 51) (Operand.const (Value.bool true)) (Operand.tmp 56), type := 4, pos := "outright.go:95", after := #[{ on := 19, ground := Ground.data }, { on := 24, ground := Ground.data }], guard := none }) rfl (by kernel_rfl) (by kernel_rfl) (by kernel_rfl) (fun _ _ _ h => h) (YS.val (by rfl) (fun _ _ => rfl)) ?_
  simp only [Act.put, List.setIfInBounds_toArray, List.set_cons_zero, List.set_cons_succ]
  refine wpS_done (by kernel_rfl) (fun wc hst => ?_) _
  clear HS0
  have HS0 := Lib.hid hst
  clear hst
  go_upto_region 5 with fail
  refine wp_regionS (fun w' => w.grownBy w' none ∧ w'.rangeAt w.heap.size 0 (s.map bval) ∧ w'.rangeAt (w.heap.size + 1) 0 (b.map bval)) (by kernel_rfl) (keep2d HS0.out) ?_
  refine wpS_take 0 (oi := { dst := some 58, op := Op.load 33 (Operand.tmp 3), type := 33, pos := "outright.go:98", after := #[], guard := none }) rfl (by kernel_rfl) (by kernel_rfl) (by kernel_rfl) (fun _ _ _ h => h) (YS.rowB (by rfl) _ _ rfl _ rfl s _ (fun _ h => h.2.1) Try.underlying33 rfl hi1) ?_
  simp only [Act.put, List.setIfInBounds_toArray, List.set_cons_zero, List.set_cons_succ]
  refine wpS_take 1 (oi := { dst := some 59, op := Op.call { callee := Callee.value (Operand.func 36), args := #[Operand.tmp 58], argTypes := #[33] }, type := 33, pos := "outright.go:98", after := #[{ on := 0, ground := Ground.data }], guard := none }) rfl (by kernel_rfl) (by kernel_rfl) (by kernel_rfl) (fun _ _ _ h => h) (YS.grow (f := 36) (args := #[.agg (cellsB s)]) (by rfl) (fun w => by go_simp) HK.out A5.out) ?_
  simp only [Act.put, List.setIfInBounds_toArray, List.set_cons_zero, List.set_cons_succ]
  refine wpS_take 2 (oi := { dst := some 60, op := Op.call { callee := Callee.value (Operand.func 38), args := #[Operand.tmp 59], argTypes := #[33] }, type := 33, pos := "outright.go:98", after := #[{ on := 1, ground := Ground.data }, { on := 1, ground := Ground.chain }], guard := none }) rfl (by kernel_rfl) (by kernel_rfl) (by kernel_rfl) (fun _ _ _ h => h) (YS.grow (f := 38) (args := #[.agg (cellsB r5)]) (by rfl) (fun w => by go_simp) HK.out B5.out) ?_
  simp only [Act.put, List.setIfInBounds_toArray, List.set_cons_zero, List.set_cons_succ]
  refine wpS_take 3 (oi := { dst := some 61, op := Op.load 33 (Operand.tmp 3), type := 33, pos := "outright.go:98", after := #[], guard := none }) rfl (by kernel_rfl) (by kernel_rfl) (by kernel_rfl) (fun _ _ _ h => h) (YS.rowB (by rfl) _ _ rfl _ rfl s _ (fun _ h => h.2.1) Try.underlying33 rfl hi1) ?_
  simp only [Act.put, List.setIfInBounds_toArray, List.set_cons_zero, List.set_cons_succ]
  refine wpS_take 4 (v := .bool false) (oi := { dst := some 62, op := Op.binOp BinOp.neq 33 (Operand.tmp 60) (Operand.tmp 61) 33, type := 4, pos := "outright.go:98", after := #[{ on := 2, ground := Ground.data }, { on := 3, ground := Ground.data }], guard := none }) rfl (by kernel_rfl) (by kernel_rfl) (by kernel_rfl) (fun _ _ _ h => h) (YS.val (by rfl) (fun w _ => by have q := QN.out; go_simp)) ?_
  simp only [Act.put, List.setIfInBounds_toArray, List.set_cons_zero, List.set_cons_succ]
  refine wpS_take 5 (oi := { dst := some 63, op := Op.move (Operand.tmp 62), type := 4, pos := "outright.go:98", after := #[{ on := 4, ground := Ground.data }, { on := 2, ground := Ground.chain }], guard := none }) rfl (by kernel_rfl) (by kernel_rfl) (by kernel_rfl) (fun _ _ _ h => h) (YS.val (by rfl) (fun _ _ => rfl)) ?_
  simp only [Act.put, List.setIfInBounds_toArray, List.set_cons_zero, List.set_cons_succ]
  refine wpS_take 6 (oi := { dst := some 64, op := Op.load 33 (Operand.tmp 3), type := 33, pos := "outright.go:98", after := #[{ on := 5, ground := Ground.guard }], guard := some (5, false) }) rfl (by kernel_rfl) (by kernel_rfl) (by kernel_rfl) (fun _ _ _ h => h) (YS.rowB (by rfl) _ _ rfl _ rfl s _ (fun _ h => h.2.1) Try.underlying33 rfl hi1) ?_
  simp only [Act.put, List.setIfInBounds_toArray, List.set_cons_zero, List.set_cons_succ]
  refine wpS_take 7 (oi := { dst := some 65, op := Op.call { callee := Callee.value (Operand.func 38), args := #[Operand.tmp 64], argTypes := #[33] }, type := 33, pos := "outright.go:98", after := #[{ on := 6, ground := Ground.data }, { on := 5, ground := Ground.chain }, { on := 5, ground := Ground.guard }], guard := some (5, false) }) rfl (by kernel_rfl) (by kernel_rfl) (by kernel_rfl) (fun _ _ _ h => h) (YS.grow (f := 38) (args := #[.agg (cellsB s)]) (by rfl) (fun w => by go_simp) HK.out A6.out) ?_
  simp only [Act.put, List.setIfInBounds_toArray, List.set_cons_zero, List.set_cons_succ]
  refine wpS_take 8 (oi := { dst := some 66, op := Op.call { callee := Callee.value (Operand.func 36), args := #[Operand.tmp 65], argTypes := #[33] }, type := 33, pos := "outright.go:98", after := #[{ on := 7, ground := Ground.data }, { on := 7, ground := Ground.chain }, { on := 5, ground := Ground.guard }], guard := some (5, false) }) rfl (by kernel_rfl) (by kernel_rfl) (by kernel_rfl) (fun _ _ _ h => h) (YS.grow (f := 36) (args := #[.agg (cellsB r6)]) (by rfl) (fun w => by go_simp) HK.out B6.out) ?_
  simp only [Act.put, List.setIfInBounds_toArray, List.set_cons_zero, List.set_cons_succ]
  refine wpS_take 9 (oi := { dst := some 67, op := Op.load 33 (Operand.tmp 3), type := 33, pos := "outright.go:98", after := #[{ on := 5, ground := Ground.guard }], guard := some (5, false) }) rfl (by kernel_rfl) (by kernel_rfl) (by kernel_rfl) (fun _ _ _ h => h) (YS.rowB (by rfl) _ _ rfl _ rfl s _ (fun _ h => h.2.1) Try.underlying33 rfl hi1) ?_
  simp only [Act.put, List.setIfInBounds_toArray, List.set_cons_zero, List.set_cons_succ]
  refine wpS_take 10 (v := .bool false) (oi := { dst := some 68, op := Op.binOp BinOp.neq 33 (Operand.tmp 66) (Operand.tmp 67) 33, type := 4, pos := "outright.go:98", after := #[{ on := 8, ground := Ground.data }, { on := 9, ground := Ground.data }, { on := 5, ground := Ground.guard }], guard := some (5, false) }) rfl (by kernel_rfl) (by kernel_rfl) (by kernel_rfl) (fun _ _ _ h => h) (YS.val (by rfl) (fun w _ => by have q := QN.out; go_simp)) ?_
  simp only [Act.put, List.setIfInBounds_toArray, List.set_cons_zero, List.set_cons_succ]
  refine wpS_take 11 (oi := { dst := some 69, op := Op.pick (Operand.tmp 63) (Operand.const (Value.bool true)) (Operand.tmp 68), type := 4, pos := "outright.go:98", after := #[{ on := 5, ground := Ground.data }, { on := 10, ground := Ground.data }], guard := none }) rfl (by kernel_rfl) (by kernel_rfl) (by kernel_rfl) (fun _ _ _ h => h) (YS.val (by rfl) (fun _ _ => rfl)) ?_
  simp only [Act.put, List.setIfInBounds_toArray, List.set_cons_zero, List.set_cons_succ]
  refine wpS_done (by kernel_rfl) (fun wc hst => ?_) _
  clear HS0
  have HS0 := Lib.hid hst
  clear hst
  go_upto_region 7 with fail
  refine wp_regionS (fun w' => w.grownBy w' none ∧ w'.rangeAt w.heap.size 0 (s.map bval) ∧ w'.rangeAt (w.heap.size + 1) 0 (b.map bval)) (by kernel_rfl) (keep2d HS0.out) ?_
  refine wpS_take 0 (oi := { dst := some 70, op := Op.load 27 (Operand.tmp 4), type := 27, pos := "outright.go:101", after := #[], guard := none }) rfl (by kernel_rfl) (by kernel_rfl) (by kernel_rfl) (fun _ _ _ h => h) (YS.rowB (by rfl) _ _ rfl _ rfl b _ (fun _ h => h.2.2) Try.underlying27 rfl hi2) ?_
  simp only [Act.put, List.setIfInBounds_toArray, List.set_cons_zero, List.set_cons_succ]
  refine wpS_take 1 (oi := { dst := some 71, op := Op.call { callee := Callee.value (Operand.func 24), args := #[Operand.tmp 70], argTypes := #[27] }, type := 33, pos := "outright.go:101", after := #[{ on := 0, ground := Ground.data }], guard := none }) rfl (by kernel_rfl) (by kernel_rfl) (by kernel_rfl) (fun _ _ _ h => h) (YS.grow (f := 24) (args := #[.agg (cellsB b)]) (by rfl) (fun w => by go_simp) HK.out A7.out) ?_
  simp only [Act.put, List.setIfInBounds_toArray, List.set_cons_zero, List.set_cons_succ]
  refine wpS_take 2 (oi := { dst := some 72, op := Op.call { callee := Callee.value (Operand.func 26), args := #[Operand.tmp 71], argTypes := #[33] }, type := 27, pos := "outright.go:101", after := #[{ on := 1, ground := Ground.data }, { on := 1, ground := Ground.chain }], guard := none }) rfl (by kernel_rfl) (by kernel_rfl) (by kernel_rfl) (fun _ _ _ h => h) (YS.grow (f := 26) (args := #[.agg (cellsB r7)]) (by rfl) (fun w => by go_simp) HK.out B7.out) ?_
  simp only [Act.put, List.setIfInBounds_toArray, List.set_cons_zero, List.set_cons_succ]
  refine wpS_take 3 (oi := { dst := some 73, op := Op.load 27 (Operand.tmp 4), type := 27, pos := "outright.go:101", after := #[], guard := none }) rfl (by kernel_rfl) (by kernel_rfl) (by kernel_rfl) (fun _ _ _ h => h) (YS.rowB (by rfl) _ _ rfl _ rfl b _ (fun _ h => h.2.2) Try.underlying27 rfl hi2) ?_
  simp only [Act.put, List.setIfInBounds_toArray, List.set_cons_zero, List.set_cons_succ]
  refine wpS_take 4 (v := .bool true) (oi := { dst := some 74, op := Op.binOp BinOp.eql 27 (Operand.tmp 72) (Operand.tmp 73) 27, type := 4, pos := "outright.go:101", after := #[{ on := 2, ground := Ground.data }, { on := 3, ground := Ground.data }], guard := none }) rfl (by kernel_rfl) (by kernel_rfl) (by kernel_rfl) (fun _ _ _ h => h) (YS.val (by rfl) (fun w _ => by have q := QB.out; go_simp)) ?_
  simp only [Act.put, List.setIfInBounds_toArray, List.set_cons_zero, List.set_cons_succ]
  refine wpS_take 5 (oi := { dst := some 75, op := Op.move (Operand.tmp 74), type := 4, pos := "outright.go:101", after := #[{ on := 4, ground := Ground.data }, { on := 2, ground := Ground.chain }], guard := none }) rfl (by kernel_rfl) (by kernel_rfl) (by kernel_rfl) (fun _ _ _ h => h) (YS.val (by rfl) (fun _ _ => rfl)) ?_
  simp only [Act.put, List.setIfInBounds_toArray, List.set_cons_zero, List.set_cons_succ]
  refine wpS_take 6 (oi := { dst := some 76, op := Op.load 33 (Operand.tmp 3), type := 33, pos := "outright.go:101", after := #[{ on := 5, ground := Ground.guard }], guard := some (5, true) }) rfl (by kernel_rfl) (by kernel_rfl) (by kernel_rfl) (fun _ _ _ h => h) (YS.rowB (by rfl) _ _ rfl _ rfl s _ (fun _ h => h.2.1) Try.underlying33 rfl hi1) ?_
  simp only [Act.put, List.setIfInBounds_toArray, List.set_cons_zero, List.set_cons_succ]
  refine wpS_take 7 (oi := { dst := some 77, op := Op.call { callee := Callee.value (Operand.func 26), args := #[Operand.tmp 76], argTypes := #[33] }, type := 27, pos := "outright.go:101", after := #[{ on := 6, ground := Ground.data }, { on := 5, ground := Ground.chain }, { on := 5, ground := Ground.guard }], guard := some (5, true) }) rfl (by kernel_rfl) (by kernel_rfl) (by kernel_rfl) (fun _ _ _ h => h) (YS.grow (f := 26) (args := #[.agg (cellsB s)]) (by rfl) (fun w => by go_simp) HK.out A8.out) ?_
  simp only [Act.put, List.setIfInBounds_toArray, List.set_cons_zero, List.set_cons_succ]
  refine wpS_take 8 (oi := { dst := some 78, op := Op.call { callee := Callee.value (Operand.func 24), args := #[Operand.tmp 77], argTypes := #[27] }, type := 33, pos := "outright.go:101", after := #[{ on := 7, ground := Ground.data }, { on := 7, ground := Ground.chain }, { on := 5, ground := Ground.guard }], guard := some (5, true) }) rfl (by kernel_rfl) (by kernel_rfl) (by kernel_rfl) (fun _ _ _ h => h) (YS.grow (f := 24) (args := #[.agg (cellsB r8)]) (by rfl) (fun w => by go_simp) HK.out B8.out) ?_
  simp only [Act.put, List.setIfInBounds_toArray, List.set_cons_zero, List.set_cons_succ]
  refine wpS_take 9 (oi := { dst := some 79, op := Op.load 33 (Operand.tmp 3), type := 33, pos := "outright.go:101", after := #[{ on := 5, ground := Ground.guard }], guard := some (5, true) }) rfl (by kernel_rfl) (by kernel_rfl) (by kernel_rfl) (fun _ _ _ h => h) (YS.rowB (by rfl) _ _ rfl _ rfl s _ (fun _ h => h.2.1) Try.underlying33 rfl hi1) ?_
  simp only [Act.put, List.setIfInBounds_toArray, List.set_cons_zero, List.set_cons_succ]
  refine wpS_take 10 (v := .bool true) (oi := { dst := some 80, op := Op.binOp BinOp.eql 33 (Operand.tmp 78) (Operand.tmp 79) 33, type := 4, pos := "outright.go:101", after := #[{ on := 8, ground := Ground.data }, { on := 9, ground := Ground.data }, { on := 5, ground := Ground.guard }], guard := some (5, true) }) rfl (by kernel_rfl) (by kernel_rfl) (by kernel_rfl) (fun _ _ _ h => h) (YS.val (by rfl) (fun w _ => by have q := QS.out; go_simp)) ?_
  simp only [Act.put, List.setIfInBounds_toArray, List.set_cons_zero, List.set_cons_succ]
  refine wpS_take 11 (oi := { dst := some 81, op := Op.pick (Operand.tmp 75) (Operand.tmp 80) (Operand.const (Value.bool false)), type := 4, pos := "outright.go:101", after := #[{ on := 5, ground := Ground.data }, { on := 10, ground := Ground.data }], guard := none }) rfl (by kernel_rfl) (by kernel_rfl) (by kernel_rfl) (fun _ _ _ h => h) (YS.val (by rfl) (fun _ _ => rfl)) ?_
  simp only [Act.put, List.setIfInBounds_toArray, List.set_cons_zero, List.set_cons_succ]
  refine wpS_take 12 (oi := { dst := some 82, op := Op.move (Operand.tmp 81), type := 4, pos := "outright.go:101", after := #[{ on := 11, ground := Ground.data }, { on := 8, ground := Ground.chain }], guard := none }) rfl (by kernel_rfl) (by kernel_rfl) (by kernel_rfl) (fun _ _ _ h => h) (YS.val (by rfl) (fun _ _ => rfl)) ?_
  simp only [Act.put, List.setIfInBounds_toArray, List.set_cons_zero, List.set_cons_succ]
  refine wpS_take 13 (oi := { dst := some 83, op := Op.call { callee := Callee.value (Operand.func 40), args := #[], argTypes := #[] }, type := 4, pos := "outright.go:101", after := #[{ on := 12, ground := Ground.chain }, { on := 12, ground := Ground.guard }], guard := some (12, true) }) rfl (by kernel_rfl) (by kernel_rfl) (by kernel_rfl) (fun _ _ _ h => h) (YS.grow (f := 40) (args := #[]) (by rfl) (fun w => by go_simp) HK.out awake_n) ?_
  simp only [Act.put, List.setIfInBounds_toArray, List.set_cons_zero, List.set_cons_succ]
  refine wpS_take 14 (oi := { dst := some 84, op := Op.pick (Operand.tmp 82) (Operand.tmp 83) (Operand.const (Value.bool false)), type := 4, pos := "outright.go:101", after := #[{ on := 12, ground := Ground.data }, { on := 13, ground := Ground.data }], guard := none }) rfl (by kernel_rfl) (by kernel_rfl) (by kernel_rfl) (fun _ _ _ h => h) (YS.val (by rfl) (fun _ _ => rfl)) ?_
  simp only [Act.put, List.setIfInBounds_toArray, List.set_cons_zero, List.set_cons_succ]
  refine wpS_take 15 (oi := { dst := some 6, op := Op.assign (Operand.tmp 84), type := 4, pos := "outright.go:101", after := #[{ on := 14, ground := Ground.data }, { on := 13, ground := Ground.chain }, { on := 0, ground := Ground.phase }, { on := 1, ground := Ground.phase }, { on := 2, ground := Ground.phase }, { on := 3, ground := Ground.phase }, { on := 4, ground := Ground.phase }, { on := 5, ground := Ground.phase }, { on := 6, ground := Ground.phase }, { on := 7, ground := Ground.phase }, { on := 8, ground := Ground.phase }, { on := 9, ground := Ground.phase }, { on := 10, ground := Ground.phase }, { on := 11, ground := Ground.phase }, { on := 12, ground := Ground.phase }, { on := 13, ground := Ground.phase }, { on := 14, ground := Ground.phase }], guard := none }) rfl (by kernel_rfl) (by kernel_rfl) (by kernel_rfl) (fun _ _ _ h => h) (YS.val (by rfl) (fun _ _ => rfl)) ?_
  simp only [Act.put, List.setIfInBounds_toArray, List.set_cons_zero, List.set_cons_succ]
  refine wpS_done (by kernel_rfl) (fun wc hst => ?_) _
  clear HS0
  have HS0 := Lib.hid hst
  clear hst
  go_wp2_with fail
  go_ret
  exact ⟨rfl, HS0.out.1⟩

end Go.Proofs.Ytlnmglddialhjaa
