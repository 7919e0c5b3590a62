/- ApartBytes of a literal list of lists. No walk. -/
import Derived.Test.YthemlaibjchjpaaApartW
namespace Go.Proofs.Ythemlaibjchjpaa
open Go.RowKit

theorem own_lit (w : World) (e : TypeId) (xs : List Value) (n : Nat) (hn : xs.length = n) (hm : n ≤ maxLen) : Own (w.alloc (.cells xs.toArray e)) w.heap.size e 1 (some ⟨w.heap.size, 0, none⟩) n n xs := by
  subst hn
  exact ⟨by simp, .inr ⟨w.heap.size, _, rfl, Nat.le_refl _, heap_alloc_new w _, Nat.le_refl _, hm, by simp, by simp⟩⟩

/-- between which numbers a slice's block lies -/
def Sl.within (s : Sl) (lo hi : Nat) : Prop := ∀ g, s.blk = some g → lo ≤ g ∧ g < hi
theorem BOwn.within {w : World} {base : Nat} {a : Option Addr} {n c : Nat} {l : List UInt8} (h : BOwn w base a n c l) : (⟨a, n, c⟩ : Sl).within base w.heap.size := by
  intro g hg
  have h' : BOwn w base (⟨a, n, c⟩ : Sl).a (⟨a, n, c⟩ : Sl).n (⟨a, n, c⟩ : Sl).c l := h
  obtain ⟨hc, ha⟩ := h'.blk hg
  obtain ⟨g', e, h1, h2⟩ := Own.block h hc
  rw [show a = some ⟨g, 0, none⟩ from ha] at e
  injection e with e; injection e with e
  subst e
  exact ⟨h1, h2⟩

theorem distinct_of (L : List Sl) (b : Nat → Nat) (hb : ∀ i, i < L.length → b i ≤ b (i + 1)) (h : ∀ i (hi : i < L.length), (L[i]).within (b i) (b (i + 1))) : Distinct L := by
  have mono : ∀ i j, i ≤ j → j ≤ L.length → b i ≤ b j := by
    intro i j hij
    induction j with
    | zero => intro _; have : i = 0 := by omega
              subst this; exact Nat.le_refl _
    | succ j ih =>
      intro hj
      by_cases e : i = j + 1
      · subst e; exact Nat.le_refl _
      · exact Nat.le_trans (ih (by omega) (by omega)) (hb j (by omega))
  intro i j hi hj hne g hgi hgj
  have h1 := h i hi g hgi
  have h2 := h j hj g hgj
  rcases Nat.lt_or_gt_of_ne hne with hlt | hlt
  · have := mono (i + 1) j (by omega) (by omega); omega
  · have := mono (j + 1) i (by omega) (by omega); omega

theorem st1_lit {w : World} {base : Nat} {L : List Sl} (h : ∀ j (hj : j < L.length), ∃ l, BOwn w base (L[j]).a (L[j]).n (L[j]).c l) (hb : base ≤ w.heap.size) (n : Nat) (hn : L.length = n) (hm : n ≤ maxLen) :
    St1 base (some ⟨w.heap.size, 0, none⟩) n L (w.alloc (.cells (L.map Sl.val).toArray 22)) 0 0 (w.alloc (.cells (L.map Sl.val).toArray 22)) := by
  subst hn
  refine ⟨(own_lit w _ _ _ (by simp) hm).mono hb, fun j hj => ?_, Below.refl _ _⟩
  obtain ⟨l, ho⟩ := h j hj
  exact ⟨l, Own.grownNone ho (World.grownBy_alloc w _ none), fun h => absurd h (by omega), fun _ => by simp [mkl]⟩

theorem grown_below {w0 w w' : World} {base : Nat} (h : w0.grownBy w none) (hb : Below base w w') (hs : w0.heap.size ≤ base) : w0.grownBy w' none :=
  ⟨hb.os.trans h.os, hb.tape.trans h.tape, hb.output.trans h.output, Nat.le_trans h.size hb.size, fun k hk hr => (hb.block k (by omega)).trans (h.block k hk hr)⟩

end Go.Proofs.Ythemlaibjchjpaa
