/- A list of whole numbers that came in, read. -/
import Derived.Test.YthemlaibjchjpaaRead
import Derived.Deep.Slices
namespace Go.Proofs.Ythemlaibjchjpaa
open Go.ChangeShapes Go.WideShapes Go.ChangeAt Go.RowKit

/-- whole numbers as cells -/
def IV (zs : List Int) : List Value := zs.map (fun z => .int .i64 z)

theorem rd_ints {H : Type} {enc : TypeId × Value → H} {W : World} {base : Nat} {spare : Nat → Bool} {held : Bool} {fuel : Nat} {a : Option Addr} {len cap : Nat} {d : DataW H} {p : List MemPlace}
    (h : DataW.trod enc Try.prog W base spare held fuel 23 [.slice a len cap] = some (d, p)) : ∃ zs : List Int, zs.length = len ∧ Lies W a (IV zs) ∧ (∀ z ∈ zs, -9223372036854775808 ≤ z ∧ z ≤ 9223372036854775807) ∧ len + 1 ≤ Rows.uptoBulk d ∧ len ≤ cap ∧ cap ≤ maxLen := by
  rcases open_ints Try.underlying23 Try.underlying3 (by kernel_rfl) h with ⟨hcs, hx⟩ | ⟨x, len', cap', zs, hcs, _, hl, hm, hz, hx, hcell, hwz⟩
  · simp at hcs
    obtain ⟨rfl, rfl, rfl⟩ := hcs
    injection hx with hx _
    subst hx
    exact ⟨[], rfl, fun k hk => absurd hk (by simp [IV]), fun z hz => (by cases hz), by simp [Rows.uptoBulk], Nat.le_refl _, by unfold maxLen; omega⟩
  · simp at hcs
    obtain ⟨rfl, rfl, rfl⟩ := hcs
    injection hx with hx _
    subst hx
    have hzl : len ≤ zs.length := by rw [hz]; split <;> omega
    refine ⟨zs.take len, by simp; omega, ?_, fun z hz2 => i64_of_wf (hwz _ (List.mem_of_mem_take hz2)), ?_, hl, hm⟩
    · intro k hk
      have hk' : k < zs.length := by simp [IV] at hk; omega
      obtain ⟨b, off, rfl, hc⟩ := ints_at hcell (by omega)
      refine ⟨b, off, rfl, ?_⟩
      rw [hc k hk']
      have e : zs.getD k 0 = zs[k] := by simp [hk']
      rw [e]
      simp [IV]
    · have h1 := bulk_slice (H := H) (lits .i64 (zs.take len)) (lits .i64 (zs.drop len))
      have h2 := bulk_length (H := H) (lits .i64 (zs.take len))
      have h3 : (lits (H := H) .i64 (zs.take len)).length = len := by simp [lits]; omega
      omega

end Go.Proofs.Ythemlaibjchjpaa
