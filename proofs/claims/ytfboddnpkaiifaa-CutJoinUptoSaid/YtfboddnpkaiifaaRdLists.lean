/- A list of lists of bytes that came in, read. -/
import Derived.Test.YtfboddnpkaiifaaRead
import Derived.Test.YtfboddnpkaiifaaLists
import Derived.Deep.Slices
namespace Go.Proofs.Ytfboddnpkaiifaa
open Go.ChangeShapes Go.WideShapes Go.ChangeAt Go.RowKit

theorem bulk_mem {H : Type} {d : DataW H} : ∀ {l : List (DataW H)}, d ∈ l → Rows.uptoBulk d ≤ Rows.uptoBulkAll l
  | [], h => by cases h
  | x :: r, h => by
    rcases List.mem_cons.1 h with rfl | h
    · simp only [Rows.uptoBulkAll]; omega
    · have := bulk_mem h
      simp only [Rows.uptoBulkAll]; omega
theorem rd_lists {H : Type} {enc : TypeId × Value → H} {W : World} {base : Nat} {spare : Nat → Bool} {held : Bool} {fuel : Nat} {a : Option Addr} {len cap : Nat} {d : DataW H} {p : List MemPlace}
    (h : DataW.trod enc Try.prog W base spare held fuel 24 [.slice a len cap] = some (d, p)) : ∃ (L : List Sl) (bs : List (List UInt8)), LLies W a L bs ∧ bs.length = len ∧ (∀ b ∈ bs, b.length ≤ Rows.uptoBulk d) ∧ len ≤ Rows.uptoBulk d ∧ len ≤ cap := by
  rcases Go.Deep.open_slice1 Try.underlying24 (by kernel_rfl) h with ⟨hcs, _⟩ | ⟨a', len', cap', m, n, V, D, Pl, hcs, hb, hl, hm, hmm, hx, hall⟩
  · injection hcs with hcs; injection hcs with h1 h2 h3
    subst h1 h2 h3
    exact ⟨[], [], ⟨fun k h => absurd h (by simp), rfl, fun i h => absurd h (by simp)⟩, rfl, fun b h => (by cases h), by omega, by omega⟩
  · injection hcs with hcs; injection hcs with h1 h2 h3
    subst h1 h2 h3
    have hlm : len ≤ m := by rw [hmm]; split <;> omega
    injection hx with hx _
    subst hx
    have hbulk := bulk_slice (H := H) ((List.range len).map D) ((List.range (m - len)).map fun j => D (len + j))
    have hlen := bulk_length ((List.range len).map D)
    rw [List.length_map, List.length_range] at hlen
    have each : ∀ i, i < len → ∃ sl : Sl × List UInt8, W.cell? (a'.add i) = some sl.1.val ∧ sl.2.length = sl.1.n ∧ BLies W sl.1.a sl.2 ∧ sl.2.length ≤ Rows.uptoBulkAll ((List.range len).map D) := by
      intro i hi
      obtain ⟨hc, ht⟩ := hall i (by omega)
      have hmem : D i ∈ (List.range len).map D := List.mem_map.2 ⟨i, by simpa using hi, rfl⟩
      have hbm := bulk_mem hmem
      rcases open_ints Try.underlying22 Try.underlying5 (by kernel_rfl) ht with ⟨hv, _⟩ | ⟨x, len', cap', zs, hv, _⟩
      · injection hv with hv
        rw [hv] at ht hc
        obtain ⟨l, h1, h2, h3, _, _⟩ := rd_bytes ht
        exact ⟨(⟨none, 0, 0⟩, l), hc, h1, h2, by show l.length ≤ _; omega⟩
      · injection hv with hv
        rw [hv] at ht hc
        obtain ⟨l, h1, h2, h3, _, _⟩ := rd_bytes ht
        exact ⟨(⟨some x, len', cap'⟩, l), hc, h1, h2, by show l.length ≤ _; omega⟩
    haveI : Inhabited (Sl × List UInt8) := ⟨(⟨none, 0, 0⟩, [])⟩
    obtain ⟨S, hS⟩ := Go.Deep.choose_lt each
    refine ⟨(List.range len).map fun i => (S i).1, (List.range len).map fun i => (S i).2, ⟨fun k hk => ?_, by simp, fun i hi hi' => ?_⟩, by simp, fun b hb => ?_, by omega, hl⟩
    · have hk' : k < len := by simpa using hk
      have hcell := (hS k hk').1
      obtain ⟨b, off, spot⟩ := a'
      have hc0 := (hS 0 (by omega)).1
      have hspot : spot = none := by simpa [Addr.add] using World.cell?_spot hc0
      subst hspot
      refine ⟨b, off, rfl, ?_⟩
      rw [Go.WideShapes.add_plain] at hcell
      rw [hcell]
      simp
    · have hi2 : i < len := by simpa using hi
      obtain ⟨_, h2, h3, _⟩ := hS i hi2
      simp only [List.getElem_map, List.getElem_range]
      exact ⟨h3, h2.symm⟩
    · rw [List.mem_map] at hb
      obtain ⟨i, hi, rfl⟩ := hb
      have := (hS i (by simpa using hi)).2.2.2
      omega

end Go.Proofs.Ytfboddnpkaiifaa
