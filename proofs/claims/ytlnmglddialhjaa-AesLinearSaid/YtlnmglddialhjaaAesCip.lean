/- aes: the cells of a cipher. -/
import Derived.Test.YtlnmglddialhjaaAesKeys
import Derived.Test.YtlnmglddialhjaaRegT
namespace Go.Proofs.Ytlnmglddialhjaa
open Go.RowKit

/-- a cipher's cells: made, the keys, the table -/
def CipAt (w : World) (gc : Nat) (kk : List UInt8) : Prop := w.rangeAt gc 0 [.bool true] ∧ w.rangeAt gc 1 (kk.map bval) ∧ w.rangeAt gc 177 (tabS.map bval)
theorem CipAt.grown {w w' : World} {gc : Nat} {kk : List UInt8} (h : CipAt w gc kk) (hg : w.grownBy w' none) : CipAt w' gc kk := ⟨range_grown h.1 hg, range_grown h.2.1 hg, range_grown h.2.2 hg⟩
theorem CipAt.far {w w' : World} {gc g : Nat} {kk : List UInt8} (h : CipAt w gc kk) (hg : w.grownBy w' (some g)) (hne : gc ≠ g) : CipAt w' gc kk := ⟨range_other h.1 hg hne, range_other h.2.1 hg hne, range_other h.2.2 hg hne⟩
theorem CipAt.lt {w : World} {gc : Nat} {kk : List UInt8} (h : CipAt w gc kk) : gc < w.heap.size := World.block_lt_of_cell? w ⟨gc, 0 + 0, none⟩ (h.1 0 _ rfl)
theorem there_grown {w w' : World} {b o n : Nat} (h : w.there b o n) (hg : w.grownBy w' none) : w'.there b o n := fun j hj => by
  obtain ⟨h1, h2⟩ := h j hj
  obtain ⟨u, hu⟩ := Option.isSome_iff_exists.1 h1
  have hb := hg.block b (World.block_lt_of_cell? w ⟨b, o + j, none⟩ hu) (by simp)
  refine ⟨by rw [World.cell?_of_block hb]; exact h1, ?_⟩
  unfold World.frozen? at h2 ⊢
  rw [hb]
  exact h2

end Go.Proofs.Ytlnmglddialhjaa
