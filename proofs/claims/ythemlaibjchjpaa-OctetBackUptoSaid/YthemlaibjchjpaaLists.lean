/- Lists of lists of bytes that the call owns: an outer row of slices, each of them with memory of its own. -/
import Derived.Test.YthemlaibjchjpaaApart
namespace Go.Proofs.Ythemlaibjchjpaa
open Go.RowKit

/-- the value '.slice a n c' owns the lists bs -/
def LOwn (w : World) (base : Nat) (a : Option Addr) (n c : Nat) (bs : List (List UInt8)) : Prop :=
  ∃ L : List Sl, SOwn w base a n c L ∧ L.length = bs.length ∧ (∀ i (h : i < L.length) (h' : i < bs.length), BOwn w base (L[i]).a (L[i]).n (L[i]).c bs[i]) ∧ Distinct L

theorem LOwn.nil (w : World) (base : Nat) : LOwn w base none 0 0 [] :=
  ⟨[], Own.nil _ _ _ _ _, rfl, fun i (h : i < 0) => absurd h (by omega), fun i j (h : i < 0) => absurd h (by omega)⟩
theorem LOwn.len {w : World} {base : Nat} {a : Option Addr} {n c : Nat} {bs : List (List UInt8)} (h : LOwn w base a n c bs) : bs.length = n := by
  obtain ⟨L, h1, h2, _⟩ := h
  rw [← h2]; exact h1.len
theorem LOwn.cap {w : World} {base : Nat} {a : Option Addr} {n c : Nat} {bs : List (List UInt8)} (h : LOwn w base a n c bs) : n ≤ c ∧ c ≤ maxLen := by
  obtain ⟨L, h1, _⟩ := h
  exact Own.cap h1
theorem LOwn.grown {w w' : World} {base : Nat} {a : Option Addr} {n c : Nat} {bs : List (List UInt8)} (h : LOwn w base a n c bs) (hg : w.grownBy w' none) : LOwn w' base a n c bs := by
  obtain ⟨L, h1, h2, h3, h4⟩ := h
  exact ⟨L, Own.grownNone h1 hg, h2, fun i h h' => (h3 i h h').grown hg, h4⟩
theorem LOwn.mono {w : World} {base base' : Nat} {a : Option Addr} {n c : Nat} {bs : List (List UInt8)} (h : LOwn w base a n c bs) (hb : base' ≤ base) : LOwn w base' a n c bs := by
  obtain ⟨L, h1, h2, h3, h4⟩ := h
  exact ⟨L, Own.mono h1 hb, h2, fun i h h' => (h3 i h h').mono hb, h4⟩

/-- the list of slices bs, told by its slices -/
structure LIs (w : World) (base : Nat) (a : Option Addr) (n c : Nat) (bs : List (List UInt8)) (L : List Sl) : Prop where
  outer : SOwn w base a n c L
  len : L.length = bs.length
  inner : ∀ i (h : i < L.length) (h' : i < bs.length), BOwn w base (L[i]).a (L[i]).n (L[i]).c bs[i]
  apart : Distinct L
theorem LOwn.is {w : World} {base : Nat} {a : Option Addr} {n c : Nat} {bs : List (List UInt8)} (h : LOwn w base a n c bs) : ∃ L, LIs w base a n c bs L := by
  obtain ⟨L, h1, h2, h3, h4⟩ := h
  exact ⟨L, h1, h2, h3, h4⟩
theorem LIs.grown {w w' : World} {base : Nat} {a : Option Addr} {n c : Nat} {bs : List (List UInt8)} {L : List Sl} (h : LIs w base a n c bs L) (hg : w.grownBy w' none) : LIs w' base a n c bs L :=
  ⟨Own.grownNone h.outer hg, h.len, fun i h1 h2 => (h.inner i h1 h2).grown hg, h.apart⟩

/-- one list more -/
theorem LIs.push {w w1 w2 : World} {base : Nat} {a : Option Addr} {n c : Nat} {bs : List (List UInt8)} {L : List Sl} (h : LIs w base a n c bs L) (hb : base ≤ w.heap.size) (hg : w.grownBy w1 none)
    {a' : Option Addr} {n' c' : Nat} {b : List UInt8} (ho : BOwn w1 w.heap.size a' n' c' b) {a2 : Option Addr} {c2 : Nat}
    (hs : Own w2 base 22 1 a2 (n + 1) c2 (L.map Sl.val ++ [.slice a' n' c'])) (hgr : GrewP w1 w2 a c a2 c2) : LOwn w2 base a2 (n + 1) c2 (bs ++ [b]) := by
  obtain ⟨h1, h2, h3, h4⟩ := h
  have h1' : SOwn w1 base a n c L := Own.grownNone h1 hg
  have hin : ∀ i (h : i < L.length) (h' : i < bs.length), BOwn w2 base (L[i]).a (L[i]).n (L[i]).c bs[i] := fun i h h' => Own.grewOther ((h3 i h h').grown hg) h1' hgr (by decide)
  have hnew : BOwn w2 base a' n' c' b := Own.grewOther (ho.mono hb) h1' hgr (by decide)
  refine ⟨L ++ [⟨a', n', c'⟩], ?_, by simp [h2], ?_, ?_⟩
  · unfold SOwn; rw [List.map_append]; exact hs
  · intro i hi hi'
    by_cases e : i < L.length
    · have e' : i < bs.length := by omega
      rw [List.getElem_append_left e, List.getElem_append_left e']
      exact hin i e e'
    · simp only [List.length_append, List.length_singleton] at hi
      obtain rfl : i = L.length := by omega
      have e2 : (L ++ [⟨a', n', c'⟩])[L.length] = (⟨a', n', c'⟩ : Sl) := by simp
      have e3 : (bs ++ [b])[L.length] = b := by simp [h2]
      rw [e2, e3]
      exact hnew
  · have old : ∀ i (hi : i < L.length) g, (L[i]).blk = some g → g < w.heap.size := by
      intro i hi g hgb
      have hbo := h3 i hi (by omega)
      obtain ⟨hc, ha⟩ := hbo.blk hgb
      obtain ⟨g', ha', _, hlt⟩ := Own.block hbo hc
      rw [ha] at ha'
      obtain rfl : g = g' := by simpa using ha'
      exact hlt
    have new : ∀ g, (⟨a', n', c'⟩ : Sl).blk = some g → w.heap.size ≤ g := by
      intro g hgb
      have hbo : BOwn w1 w.heap.size (⟨a', n', c'⟩ : Sl).a (⟨a', n', c'⟩ : Sl).n (⟨a', n', c'⟩ : Sl).c b := ho
      obtain ⟨hc, ha⟩ := hbo.blk hgb
      obtain ⟨g', ha', hlt, _⟩ := Own.block hbo hc
      rw [ha] at ha'
      obtain rfl : g = g' := by simpa using ha'
      exact hlt
    intro i j hi hj hij g hgi hgj
    simp only [List.length_append, List.length_singleton] at hi hj
    by_cases ei : i < L.length
    · by_cases ej : j < L.length
      · rw [List.getElem_append_left ei] at hgi
        rw [List.getElem_append_left ej] at hgj
        exact h4 i j ei ej hij g hgi hgj
      · obtain rfl : j = L.length := by omega
        rw [List.getElem_append_left ei] at hgi
        have e2 : (L ++ [⟨a', n', c'⟩])[L.length]'(by simp) = (⟨a', n', c'⟩ : Sl) := by simp
        rw [e2] at hgj
        have := old i ei g hgi
        have := new g hgj
        omega
    · obtain rfl : i = L.length := by omega
      have ej : j < L.length := by omega
      rw [List.getElem_append_left ej] at hgj
      have e2 : (L ++ [⟨a', n', c'⟩])[L.length]'(by simp) = (⟨a', n', c'⟩ : Sl) := by simp
      rw [e2] at hgi
      have := old j ej g hgj
      have := new g hgi
      omega

/-- a list of slices that lies somewhere, and the bytes that they hold -/
def LLies (w : World) (a : Option Addr) (L : List Sl) (bs : List (List UInt8)) : Prop :=
  Lies w a (L.map Sl.val) ∧ L.length = bs.length ∧ ∀ i (h : i < L.length) (h' : i < bs.length), BLies w (L[i]).a bs[i] ∧ (L[i]).n = (bs[i]).length

theorem LOwn.lies {w : World} {base : Nat} {a : Option Addr} {n c : Nat} {bs : List (List UInt8)} (h : LOwn w base a n c bs) : ∃ L, LLies w a L bs ∧ SOwn w base a n c L ∧ ∀ i (h : i < L.length) (h' : i < bs.length), BOwn w base (L[i]).a (L[i]).n (L[i]).c bs[i] := by
  obtain ⟨L, h1, h2, h3, h4⟩ := h
  refine ⟨L, ⟨?_, h2, fun i h h' => ⟨(h3 i h h').lies, (h3 i h h').len.symm⟩⟩, h1, h3⟩
  intro k hk
  obtain ⟨g, e, _, _, hc, _⟩ := Own.cell h1 k hk
  exact ⟨g, 0, e, by rw [Nat.zero_add, hc]⟩

theorem LLies.heap {w w' : World} {a : Option Addr} {L : List Sl} {bs : List (List UInt8)} (h : LLies w a L bs) (hk : ∀ b, b < w.heap.size → w'.heap[b]? = w.heap[b]?) : LLies w' a L bs := by
  refine ⟨fun k hk' => ?_, h.2.1, fun i hi hi' => ⟨((h.2.2 i hi hi').1).heap fun b _ _ hb => hk b hb, (h.2.2 i hi hi').2⟩⟩
  obtain ⟨b, off, e, hc⟩ := h.1 k hk'
  exact ⟨b, off, e, (World.cell?_of_block (hk b (World.block_lt_of_cell? w _ hc))).trans hc⟩
theorem LLies.grown {w w' : World} {a : Option Addr} {L : List Sl} {bs : List (List UInt8)} (h : LLies w a L bs) (hg : w.grownBy w' none) : LLies w' a L bs :=
  h.heap fun b hb => hg.block b hb (by simp)

end Go.Proofs.Ythemlaibjchjpaa
