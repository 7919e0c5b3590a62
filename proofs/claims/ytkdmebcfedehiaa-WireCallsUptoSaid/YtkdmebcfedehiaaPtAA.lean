/- Helpers and contracts of the proofs over this seat: Base, Own, Read, RdInts, WireRd, Same, Lent, Clone, Row, Box, Ch, Reader, Width, Big, Small, Reader2, Reader3, RegS, RegT, RegX, RegE, Mid, TakeA, Frm, WireMath. Each states what a function of the program answers, or is plain Lean; its conditions stand in each statement. -/
import Derived.Test.YtkdmebcfedehiaaProg
import Derived.WalkKit
import Derived.WalkSpells
import Derived.WalkLawsBesides
import Derived.Deep.QuietTactic
import Derived.BigQuiet
import Derived.Deep.LoopGhost
import Derived.Deep.DeepCutAuto
import Derived.StillTailTactics
import Derived.Deep.DeepMust
import Derived.Lib.Hide
import Derived.Test.YtkdmebcfedehiaaRows
import Derived.ProofKit
import Derived.OpenShut
import Derived.ShutString
import Derived.ChangeOld
import Derived.JoinedCond
import Derived.Deep.Slices
import Derived.Lib.SliceRun
import Derived.Great.BuildSlice
import Derived.Deep.OwnRows
import Derived.Handy
import Derived.Deep.RegionHeld3
set_option linter.unusedVariables false
/- The words that all walks of this seat share: rows of cells that are read, rows that the call owns, what a call may change. -/
namespace Go.Proofs.Ytkdmebcfedehiaa
open Go.RowKit

/-- a byte as a cell -/
def bval (x : UInt8) : Value := .int .u8 (x.toNat : Int)

/-- from the address a on the cells xs lie (nothing is asked of a where there are none) -/
def Lies (w : World) (a : Option Addr) (xs : List Value) : Prop :=
  ∀ (k : Nat) (h : k < xs.length), ∃ b off, a = some ⟨b, off, none⟩ ∧ w.cell? ⟨b, off + k, none⟩ = some xs[k]

/-- from the address a on these bytes lie -/
def BLies (w : World) (a : Option Addr) (l : List UInt8) : Prop :=
  ∀ (k : Nat) (h : k < l.length), ∃ b off, a = some ⟨b, off, none⟩ ∧ w.cell? ⟨b, off + k, none⟩ = some (.int .u8 ((l[k]).toNat : Int))

theorem BLies.heap {w w' : World} {a : Option Addr} {l : List UInt8} (h : BLies w a l) (hk : ∀ b off, a = some ⟨b, off, none⟩ → b < w.heap.size → w'.heap[b]? = w.heap[b]?) : BLies w' a l := by
  intro k hk'
  obtain ⟨b, off, e, hc⟩ := h k hk'
  exact ⟨b, off, e, (World.cell?_of_block (hk b off e (World.block_lt_of_cell? w _ hc))).trans hc⟩
theorem BLies.grown {w w' : World} {a : Option Addr} {l : List UInt8} (h : BLies w a l) (hg : w.grownBy w' none) : BLies w' a l :=
  h.heap fun b _ _ hb => hg.block b hb (by simp)
theorem BLies.grownNe {w w' : World} {a : Option Addr} {l : List UInt8} {g : Nat} (h : BLies w a l) (hg : w.grownBy w' (some g)) (hne : ∀ b off, a = some ⟨b, off, none⟩ → b ≠ g) : BLies w' a l :=
  h.heap fun b off e hb => hg.block b hb (by have := hne b off e; simpa using this)
theorem BLies.drewN {w : World} {a : Option Addr} {l : List UInt8} (h : BLies w a l) (n : Nat) : BLies (w.drewN n) a l :=
  h.heap fun _ _ _ _ => by simp
theorem BLies.nil (w : World) (a : Option Addr) : BLies w a [] := fun k hk => absurd hk (by simp)
theorem BLies.take {w : World} {a : Option Addr} {l : List UInt8} (h : BLies w a l) (n : Nat) : BLies w a (l.take n) := by
  intro k hk
  obtain ⟨b, off, e, hc⟩ := h k (by simp at hk; omega)
  exact ⟨b, off, e, by rw [hc]; simp⟩

theorem quietS2 {P : Program} {f : FuncId} {args : Array Value} {w : World} {q n : Nat} {v : Value} (h : Calls P f args (w.drewN (q + n)) fun e w' => e = .returned v ∧ w.drewN (q + n) = w') : Calls P f args (w.drewN (q + n)) fun e w'' => e = .returned v ∧ ∃ m, w'' = w.drewN (q + m) :=
  h.mono fun _ _ ⟨he, hw⟩ => ⟨he, n, hw.symm⟩

/-- what a call may change: of the blocks that were there those in S alone; there may be new ones -/
structure Ch (S : Nat → Prop) (w w' : World) : Prop where
  os : w'.os = w.os
  tape : w'.tape = w.tape
  output : w'.output = w.output
  size : w.heap.size ≤ w'.heap.size
  block : ∀ k, k < w.heap.size → ¬ S k → w'.heap[k]? = w.heap[k]?

theorem Ch.refl (S : Nat → Prop) (w : World) : Ch S w w := ⟨rfl, rfl, rfl, Nat.le_refl _, fun _ _ _ => rfl⟩
theorem Ch.trans {S T : Nat → Prop} {a b c : World} (h : Ch S a b) (k : Ch T b c) (hT : ∀ i, i < a.heap.size → T i → S i) : Ch S a c :=
  ⟨k.os.trans h.os, k.tape.trans h.tape, k.output.trans h.output, Nat.le_trans h.size k.size, fun i hi hs => (k.block i (Nat.lt_of_lt_of_le hi h.size) (fun ht => hs (hT i hi ht))).trans (h.block i hi hs)⟩

end Go.Proofs.Ytkdmebcfedehiaa
/- Rows that the call owns, and the laws of append over them: an append of any cells; an append of one value. -/
namespace Go.Proofs.Ytkdmebcfedehiaa
open Go.RowKit

/-- what the program's table has of a slice type and its elements -/
structure El (P : Program) (t e : TypeId) (z : Value) (size bytes : Nat) : Prop where
  slice : P.underlying t = some (.slice e)
  info : ∃ i, P.info? e = some i ∧ i.zero = some z ∧ i.size = size ∧ i.bytes = bytes
  zs : z.cells.size = size
  pos : 0 < size

/-- the value '.slice a n c' owns the cells xs: it has no room at all, or it begins at the head of a block from 'base' on -/
def Own (w : World) (base : Nat) (e : TypeId) (size : Nat) (a : Option Addr) (n c : Nat) (xs : List Value) : Prop :=
  xs.length = n * size ∧ ((n = 0 ∧ c = 0) ∨
    ∃ g cur, a = some ⟨g, 0, none⟩ ∧ base ≤ g ∧ w.heap[g]? = some (.cells cur e (0, 0)) ∧ n ≤ c ∧ c ≤ maxLen ∧ cur.size = c * size ∧ cur.toList.take (n * size) = xs)

theorem Own.nil (w : World) (base : Nat) (e : TypeId) (size : Nat) (a : Option Addr) : Own w base e size a 0 0 [] := ⟨by simp, .inl ⟨rfl, rfl⟩⟩

theorem Own.cap {w : World} {base : Nat} {e : TypeId} {size : Nat} {a : Option Addr} {n c : Nat} {xs : List Value} (h : Own w base e size a n c xs) : n ≤ c ∧ c ≤ maxLen := by
  rcases h.2 with ⟨h0, h1⟩ | ⟨g, cur, ha, hb, hh, hn, hm, _⟩
  · subst h0; subst h1; unfold maxLen; omega
  · exact ⟨hn, hm⟩

theorem Own.block {w : World} {base : Nat} {e : TypeId} {size : Nat} {a : Option Addr} {n c : Nat} {xs : List Value} (h : Own w base e size a n c xs) (hc : 0 < c) : ∃ g, a = some ⟨g, 0, none⟩ ∧ base ≤ g ∧ g < w.heap.size := by
  rcases h.2 with ⟨_, h0⟩ | ⟨g, cur, ha, hb, hh, _⟩
  · omega
  · exact ⟨g, ha, hb, (Array.getElem?_eq_some_iff.1 hh).1⟩

/-- what is owned stays owned where its block stands -/
theorem Own.kept' {w w' : World} {base : Nat} {e : TypeId} {size : Nat} {a : Option Addr} {n c : Nat} {xs : List Value} (h : Own w base e size a n c xs) (hk : 0 < c → ∀ g, a = some ⟨g, 0, none⟩ → g < w.heap.size → w'.heap[g]? = w.heap[g]?) : Own w' base e size a n c xs := by
  refine ⟨h.1, ?_⟩
  rcases h.2 with h0 | ⟨g, cur, ha, hb, hh, hn, r⟩
  · exact .inl h0
  · by_cases hc : 0 < c
    · exact .inr ⟨g, cur, ha, hb, (hk hc g ha (Array.getElem?_eq_some_iff.1 hh).1).trans hh, hn, r⟩
    · exact .inl ⟨by omega, by omega⟩
theorem Own.kept {w w' : World} {base : Nat} {e : TypeId} {size : Nat} {a : Option Addr} {n c : Nat} {xs : List Value} (h : Own w base e size a n c xs) (hk : ∀ g, a = some ⟨g, 0, none⟩ → g < w.heap.size → w'.heap[g]? = w.heap[g]?) : Own w' base e size a n c xs :=
  h.kept' fun _ => hk

theorem Own.mono {w : World} {base base' : Nat} {e : TypeId} {size : Nat} {a : Option Addr} {n c : Nat} {xs : List Value} (h : Own w base e size a n c xs) (hb : base' ≤ base) : Own w base' e size a n c xs := by
  refine ⟨h.1, ?_⟩
  rcases h.2 with h0 | ⟨g, cur, ha, hbg, r⟩
  · exact .inl h0
  · exact .inr ⟨g, cur, ha, by omega, r⟩

/-- the cells of what is owned -/
theorem Own.cell {w : World} {base : Nat} {e : TypeId} {size : Nat} {a : Option Addr} {n c : Nat} {xs : List Value} (h : Own w base e size a n c xs) (k : Nat) (hk : k < xs.length) : ∃ g, a = some ⟨g, 0, none⟩ ∧ base ≤ g ∧ g < w.heap.size ∧ w.cell? ⟨g, k, none⟩ = some xs[k] ∧ w.frozen? ⟨g, k, none⟩ = false := by
  rcases h.2 with ⟨h0, _⟩ | ⟨g, cur, ha, hb, hh, hn, hm, hs, ht⟩
  · have := h.1; subst h0; simp at this; subst this; simp at hk
  · refine ⟨g, ha, hb, (Array.getElem?_eq_some_iff.1 hh).1, ?_, ?_⟩
    · have hl := h.1
      have e1 : (cur.toList.take (n * size))[k]? = xs[k]? := by rw [ht]
      rw [List.getElem?_take, if_pos (by omega), List.getElem?_eq_getElem hk] at e1
      simp only [World.cell?, hh]
      simpa using e1
    · simp [World.frozen?, hh]

/-- a store into what is owned -/
theorem Own.set {w : World} {base : Nat} {e : TypeId} {size : Nat} {g n c : Nat} {xs : List Value} (h : Own w base e size (some ⟨g, 0, none⟩) n c xs) (k : Nat) (hk : k < xs.length) (u : Value) : Own (w.setCell ⟨g, k, none⟩ u) base e size (some ⟨g, 0, none⟩) n c (xs.set k u) := by
  refine ⟨by rw [List.length_set]; exact h.1, ?_⟩
  rcases h.2 with ⟨h0, _⟩ | ⟨g', cur, ha, hb, hh, hn, hm, hs, ht⟩
  · have := h.1; subst h0; simp at this; subst this; simp at hk
  · obtain rfl : g = g' := by simpa using ha
    have hl := h.1
    refine .inr ⟨g, cur.setIfInBounds k u, rfl, hb, ?_, hn, hm, by simpa using hs, ?_⟩
    · simp only [World.setCell, Array.getElem?_modify, ↓reduceIte, hh, Option.map_some]
      simp
    · rw [Array.toList_setIfInBounds, List.take_set, ht]

theorem grownBy_setCell (w : World) (g k : Nat) (u : Value) : w.grownBy (w.setCell ⟨g, k, none⟩ u) (some g) :=
  ⟨rfl, rfl, rfl, by simp [World.setCell], fun i _ hr => Below.heap_setCell _ _ _ _ (by simpa using hr)⟩

/-- an array in a block of its own, its cells told -/
theorem own_array (w : World) (e : TypeId) (cs : Array Value) (n : Nat) (hn : cs.size = n) (hm : n ≤ maxLen) : Own (w.alloc (.cells cs e)) w.heap.size e 1 (some ⟨w.heap.size, 0, none⟩) n n cs.toList := by
  subst hn
  exact ⟨by simp, .inr ⟨w.heap.size, _, rfl, Nat.le_refl _, heap_alloc_new w _, Nat.le_refl _, hm, by simp, by rw [Nat.mul_one, List.take_of_length_le (by simp)]⟩⟩
/-- the whole of a block that is owned -/
theorem Own.whole {w : World} {base : Nat} {e : TypeId} {g n : Nat} {xs : List Value} (h : Own w base e 1 (some ⟨g, 0, none⟩) n n xs) (hn : 0 < n) : w.heap[g]? = some (.cells xs.toArray e (0, 0)) := by
  rcases h.2 with ⟨h0, _⟩ | ⟨g', cur, ha, hb, hh, hnn, hm, hs, ht⟩
  · omega
  · injection ha with ha; injection ha with ha
    subst ha
    rw [hh, ← ht, List.take_of_length_le (by simp; omega)]
theorem grownBy_setRow (w : World) (g : Nat) (cs : Array Value) : w.grownBy (w.setRow g cs) (some g) :=
  ⟨rfl, rfl, rfl, by simp, fun k _ hk => setRow_other w g k _ (fun e => hk (by simp [e]))⟩

/-- what an append has done to the world and the address: nothing; written into its own block; a new block -/
def GrewP (w w1 : World) (a : Option Addr) (c : Nat) (a' : Option Addr) (c' : Nat) : Prop :=
  (∃ g, a' = some ⟨g, 0, none⟩ ∧ a = a' ∧ 0 < c ∧ c' = c ∧ w.grownBy w1 (some g)) ∨ (∃ g, a' = some ⟨g, 0, none⟩ ∧ w.heap.size ≤ g ∧ w.grownBy w1 none)
def Grew (w w1 : World) (a : Option Addr) (c : Nat) (a' : Option Addr) (c' : Nat) : Prop := (a' = a ∧ c' = c ∧ w1 = w) ∨ GrewP w w1 a c a' c'
theorem GrewP.grew {w w1 : World} {a : Option Addr} {c : Nat} {a' : Option Addr} {c' : Nat} (h : GrewP w w1 a c a' c') : Grew w w1 a c a' c' := .inr h

theorem grownBy_trans {a b c : World} {row : Option Nat} (h : a.grownBy b row) (k : b.grownBy c row) : a.grownBy c row :=
  ⟨k.os.trans h.os, k.tape.trans h.tape, k.output.trans h.output, Nat.le_trans h.size k.size, fun i hi hr => (k.block i (Nat.lt_of_lt_of_le hi h.size) hr).trans (h.block i hi hr)⟩
theorem grownBy_none {a b : World} {row : Option Nat} (h : a.grownBy b row) (hr : ∀ g, row = some g → a.heap.size ≤ g) : a.grownBy b none :=
  ⟨h.os, h.tape, h.output, h.size, fun i hi _ => h.block i hi (fun e => by have := hr i e.symm; omega)⟩
theorem grownBy_some {a b : World} (h : a.grownBy b none) (row : Option Nat) : a.grownBy b row :=
  ⟨h.os, h.tape, h.output, h.size, fun i hi _ => h.block i hi (by simp)⟩
theorem grownBy_old {a b c : World} {g : Nat} (h : a.grownBy b none) (k : b.grownBy c (some g)) (hg : a.heap.size ≤ g) : a.grownBy c none :=
  grownBy_none (grownBy_trans (grownBy_some h (some g)) k) (by rintro g' ⟨⟩; exact hg)
theorem grownBy_al {a b : World} (h : a.grownBy b none) (o : Obj) : a.grownBy (b.alloc o) none := grownBy_trans h (World.grownBy_alloc b o none)
theorem grownBy_dr {a b : World} (h : a.grownBy b none) (n : Nat) : a.grownBy (b.drewN n) none := ⟨h.os, h.tape, h.output, h.size, h.block⟩
theorem grownBy_drewN (w : World) (n : Nat) (row : Option Nat) : w.grownBy (w.drewN n) row := ⟨rfl, rfl, rfl, Nat.le_refl _, fun _ _ _ => rfl⟩

theorem Grew.size {w w1 : World} {a : Option Addr} {c : Nat} {a' : Option Addr} {c' : Nat} (h : Grew w w1 a c a' c') : w.heap.size ≤ w1.heap.size := by
  rcases h with ⟨_, _, rfl⟩ | ⟨g, _, _, _, _, h⟩ | ⟨g, _, _, h⟩
  · exact Nat.le_refl _
  · exact h.size
  · exact h.size

/-- of what lay before the base nothing has turned -/
theorem Grew.grown {w0 w w1 : World} {base : Nat} {e : TypeId} {size : Nat} {a : Option Addr} {n c : Nat} {xs : List Value} {a' : Option Addr} {c' : Nat} (h : Grew w w1 a c a' c') (ho : Own w base e size a n c xs) (hg : w0.grownBy w none) (hb : w0.heap.size ≤ base) : w0.grownBy w1 none := by
  rcases h with ⟨_, _, rfl⟩ | ⟨g, ha, rfl, hc, _, h⟩ | ⟨g, _, _, h⟩
  · exact hg
  · obtain ⟨g', he, hb', _⟩ := ho.block hc
    rw [ha] at he
    obtain rfl : g = g' := by simpa using he
    exact grownBy_old hg h (by omega)
  · exact grownBy_trans hg h

/-- another row stays -/
theorem Grew.other {w w1 : World} {a : Option Addr} {c : Nat} {a' : Option Addr} {c' : Nat} (h : Grew w w1 a c a' c') (k : Nat) (hk : k < w.heap.size) (hne : ∀ g, 0 < c → a = some ⟨g, 0, none⟩ → k ≠ g) : w1.heap[k]? = w.heap[k]? := by
  rcases h with ⟨_, _, rfl⟩ | ⟨g, ha, rfl, hc, _, h⟩ | ⟨g, _, _, h⟩
  · rfl
  · exact h.block k hk (by have := hne g hc ha; simpa using this)
  · exact h.block k hk (by simp)

section
variable {P : Program}

theorem run_app (w : World) {t ty e : TypeId} {z : Value} {size bytes : Nat} (H : El P t e z size bytes) {base : Nat} {a : Option Addr} {n c : Nat} {xs : List Value} (hown : Own w base e size a n c xs)
    (ad : Addr) (m c2 : Nat) (news : List Value) (hl : news.length = m * size) (hnews : ∀ j u, news[j]? = some u → w.cell? (ad.add j) = some u) (h1 : ∀ u ∈ news, u.oneCell' = true)
    (h63 : n + m ≤ maxLen) (hbytes : (n + m) * bytes ≤ 140737488355328) (hbase : base ≤ w.heap.size) (hnil : a = none → c = 0 → n = 0 → True) (hm : 0 < m) :
    ∃ g c' w1, (Builtin.append_ #[t, t] ty #[.slice a n c, .slice (some ad) m c2]).run P w = .ok (.slice (some ⟨g, 0, none⟩) (n + m) c') w1 ∧ Own w1 base e size (some ⟨g, 0, none⟩) (n + m) c' (xs ++ news) ∧ GrewP w w1 a c (some ⟨g, 0, none⟩) c' := by
  obtain ⟨ht, ⟨i, hi, hz, rfl, rfl⟩, hzs, hsz⟩ := H
  have hsmall : n + m ≤ 9223372036854775807 := by simp only [maxLen] at h63; omega
  have hlen : (xs ++ news).length = (n + m) * i.size := by rw [List.length_append, hown.1, hl, Nat.add_mul]
  have grown : ∀ (old : Nat), old < n + m →
      Own (w.drew.alloc (.cells (xs.toArray ++ news.toArray ++ Builtin.zeroCells z.cells (grownCap w (n + m) old e - (n + m))) e)) base e i.size
        (some ⟨w.heap.size, 0, none⟩) (n + m) (grownCap w (n + m) old e) (xs ++ news) ∧
      w.grownBy (w.drew.alloc (.cells (xs.toArray ++ news.toArray ++ Builtin.zeroCells z.cells (grownCap w (n + m) old e - (n + m))) e)) none := by
    intro old ho
    have hge := grownCap_ge w (n + m) old e
    have hcm : grownCap w (n + m) old e ≤ maxLen := grownCap_le_maxLen w (n + m) old e h63
    refine ⟨⟨hlen, .inr ⟨w.heap.size, _, rfl, hbase, heap_alloc_new w.drew _, hge, hcm, ?_, ?_⟩⟩, ⟨rfl, rfl, rfl, by simp, fun k hk _ => Below.heap_alloc w.drew _ k hk⟩⟩
    · simp only [Array.size_append, List.size_toArray, size_zeroCells, hzs, hown.1, hl, ← Nat.add_mul]
      congr 1
      omega
    · simp only [Array.toList_append, List.append_assoc]
      rw [← List.append_assoc, ← hlen]
      exact List.take_left
  rcases hown.2 with ⟨rfl, rfl⟩ | ⟨g, cur, rfl, hbg, hg, hnc, hcm, hcs, htake⟩
  · have hx : xs = [] := List.eq_nil_of_length_eq_zero (by simpa using hown.1)
    subst hx
    have hgr := grown 0 (by omega)
    cases a with
    | none =>
      have hr := run_append_nil (P := P) w t ty e i z ht hi hz ad m c2 news hl hnews hm (by omega) (by have hb := hbytes; simp only [Nat.zero_add] at hb; omega)
      simp only [Nat.zero_add, List.nil_append, Array.empty_append] at hgr ⊢
      exact ⟨_, _, _, hr, hgr.1, .inr ⟨_, rfl, Nat.le_refl _, hgr.2⟩⟩
    | some b =>
      have hr := run_append_grow (P := P) w t ty e i z ht hi hz b 0 0 [] (by simp) (by simp) ad m c2 news hl hnews (by omega) (by omega) (growslice_fits (by omega) hbytes)
      exact ⟨_, _, _, hr, hgr.1, .inr ⟨_, rfl, Nat.le_refl _, hgr.2⟩⟩
  · by_cases hroom : n + m ≤ c
    · have hfit : n * i.size + news.length ≤ cur.size := by rw [hl, hcs, ← Nat.add_mul]; exact Nat.mul_le_mul_right _ hroom
      have hr := run_append_room (P := P) w t ty e i ht hi g n c cur hg ad m c2 news hl hnews h1 hroom hfit
      refine ⟨_, _, _, hr, ⟨hlen, .inr ⟨g, _, rfl, hbg, setRow_heap w g cur _ e _ hg, hroom, hcm, ?_, ?_⟩⟩, .inl ⟨g, rfl, rfl, by omega, rfl, ⟨rfl, rfl, rfl, by simp, fun k _ hk => setRow_other w g k _ (fun e => hk (by simp [e]))⟩⟩⟩
      · simp only [List.size_toArray, List.length_append, List.length_take, List.length_drop, Array.length_toList]
        omega
      · rw [htake, ← hlen]
        exact List.take_left
    · have holds : ∀ j u, xs[j]? = some u → w.cell? ((⟨g, 0, none⟩ : Addr).add j) = some u := by
        intro j u hu
        have hadd : (⟨g, 0, none⟩ : Addr).add j = ⟨g, j, none⟩ := by unfold Addr.add; split <;> simp_all
        obtain ⟨hj, rfl⟩ := List.getElem?_eq_some_iff.1 hu
        obtain ⟨g', e1, _, _, hc, _⟩ := hown.cell j hj
        obtain rfl : g = g' := by simpa using e1
        rw [hadd]; exact hc
      have hr := run_append_grow (P := P) w t ty e i z ht hi hz ⟨g, 0, none⟩ n c xs hown.1 holds ad m c2 news hl hnews (by omega) (by omega) (growslice_fits (by omega) hbytes)
      have hgr := grown c (by omega)
      exact ⟨_, _, _, hr, hgr.1, .inr ⟨_, rfl, Nat.le_refl _, hgr.2⟩⟩

/-- append of cells that lie somewhere (there is at least one) -/
theorem wpList_app {w : World} {ops : Array Oper} {rest : List Oper} {o : Oper} {act : Act} {Q : Exit → Act → World → Prop} {t e : TypeId} {z : Value} {size bytes : Nat} (H : El P t e z size bytes)
    (hgd : o.guard = none) (s x : Operand) (ho : o.op = .call { callee := .builtin .append, args := #[s, x], argTypes := #[t, t] })
    {base : Nat} {a : Option Addr} {n c : Nat} {xs : List Value} (hs : act.eval s = .slice a n c) (hown : Own w base e size a n c xs)
    (ad : Addr) (m c2 : Nat) (news : List Value) (hx : act.eval x = .slice (some ad) m c2) (hl : news.length = m * size) (hnews : ∀ j u, news[j]? = some u → w.cell? (ad.add j) = some u) (h1 : ∀ u ∈ news, u.oneCell' = true)
    (h63 : n + m ≤ maxLen) (hbytes : (n + m) * bytes ≤ 140737488355328) (hbase : base ≤ w.heap.size) (hm : 0 < m)
    (h : ∀ g c' w1, Own w1 base e size (some ⟨g, 0, none⟩) (n + m) c' (xs ++ news) → GrewP w w1 a c (some ⟨g, 0, none⟩) c' → wpList P ops Q rest (act.put o.dst (.slice (some ⟨g, 0, none⟩) (n + m) c')) w1) : wpList P ops Q (o :: rest) act w := by
  refine wpList_plain hgd fun K hK => ?_
  obtain ⟨g, c', w1, hr, h2, h3⟩ := run_app (P := P) (ty := o.type) w H hown ad m c2 news hl hnews h1 h63 hbytes hbase (fun _ _ _ => trivial) hm
  unfold Oper.wp execOp
  simp only [ho, resolve, invoke, builtin, Sem.run_bind, Sem.run_pure, Result.andThen_ok, List.map_toArray, List.map_cons, List.map_nil, hs, hx, hr]
  exact hK _ _ (h g c' w1 h2 h3)

/-- append of one value of one cell: the translation has just laid it in a block of its own -/
theorem wpList_push {w : World} {ops : Array Oper} {rest : List Oper} {o : Oper} {act : Act} {Q : Exit → Act → World → Prop} {t e : TypeId} {z : Value} {bytes : Nat} (H : El P t e z 1 bytes)
    (hgd : o.guard = none) (s x : Operand) (ho : o.op = .call { callee := .builtin .append, args := #[s, x], argTypes := #[t, t] })
    {base : Nat} {a : Option Addr} {n c : Nat} {xs : List Value} (hs : act.eval s = .slice a n c) (hown : Own w base e 1 a n c xs)
    (u : Value) (hx : act.eval x = .slice (some ⟨w.heap.size, 0, none⟩) 1 1) (h1 : u.oneCell' = true)
    (h63 : n + 1 ≤ maxLen) (hbytes : (n + 1) * bytes ≤ 140737488355328) (hbase : base ≤ w.heap.size)
    (h : ∀ g c' w1, Own w1 base e 1 (some ⟨g, 0, none⟩) (n + 1) c' (xs ++ [u]) → GrewP w w1 a c (some ⟨g, 0, none⟩) c' → wpList P ops Q rest (act.put o.dst (.slice (some ⟨g, 0, none⟩) (n + 1) c')) w1) : wpList P ops Q (o :: rest) act (w.alloc (.cells #[u] e)) := by
  have hga : w.grownBy (w.alloc (.cells #[u] e)) none := World.grownBy_alloc w _ none
  refine wpList_app H hgd s x ho hs (hown.kept fun g _ hg => hga.block g hg (by simp)) ⟨w.heap.size, 0, none⟩ 1 1 [u] hx (by simp) (cell_one_new _ _ _) (by simpa using h1) h63 hbytes (by have := hga.size; omega) (by omega) ?_
  intro g c' w1 h2 h3
  refine h g c' w1 h2 ?_
  rcases h3 with ⟨g', e1, e2, hc, hcc, hg⟩ | ⟨g', e1, hs', hg⟩
  · exact .inl ⟨g', e1, e2, hc, hcc, grownBy_trans (grownBy_some hga _) hg⟩
  · exact .inr ⟨g', e1, by have := hga.size; omega, grownBy_trans hga hg⟩
end

end Go.Proofs.Ytkdmebcfedehiaa
/- What came in, as the walks want it: bytes that lie in memory; and what the bound on bulk says of a length. -/
namespace Go.Proofs.Ytkdmebcfedehiaa
open Go.ChangeShapes Go.WideShapes Go.ChangeAt Go.RowKit

theorem ownKnobT : ownKnob Try.prog.godebug = none := by kernel_rfl
theorem laidOutT : laidOutB Try.prog = true := by kernel_rfl

theorem bulk_pos {H : Type} (d : DataW H) : 1 ≤ Rows.uptoBulk d := by
  cases d with
  | lit l => cases l <;> simp [Rows.uptoBulk]
  | nil => simp [Rows.uptoBulk]
  | ptr d => simp [Rows.uptoBulk]
  | slice elems spare => simp [Rows.uptoBulk]
  | agg parts => simp [Rows.uptoBulk]
  | iface t d => simp [Rows.uptoBulk]
  | map entries => simp [Rows.uptoBulk]
  | held h => simp [Rows.uptoBulk]
theorem bulk_length {H : Type} (l : List (DataW H)) : l.length ≤ Rows.uptoBulkAll l := by
  induction l with
  | nil => simp [Rows.uptoBulkAll]
  | cons x r ih => have := bulk_pos x; simp only [Rows.uptoBulkAll, List.length_cons]; omega
theorem bulk_small {H : Type} {l : List (DataW H)} (hk : Rows.uptoSmall H l = true) : Rows.uptoBulkAll l ≤ 1048576 := of_decide_eq_true hk
theorem bulk_slice {H : Type} (elems spare : List (DataW H)) : Rows.uptoBulkAll elems + 1 ≤ Rows.uptoBulk (.slice elems spare) := by
  simp only [Rows.uptoBulk]; omega
theorem u8_of_wf {n : Int} (h : (Lit.int .u8 n).wf = true) : ((UInt8.ofNat n.toNat).toNat : Int) = n := by
  have h' : 0 ≤ n ∧ n ≤ 255 := by simpa [Lit.wf, IntKind.min, IntKind.max, IntKind.signed, IntKind.bits] using h
  rw [UInt8.toNat_ofNat']
  omega

/-- a slice of bytes that came in -/
theorem rd_bytes {H : Type} {enc : TypeId × Value → H} {W : World} {base : Nat} {spare : Nat → Bool} {held : Bool} {fuel : Nat} {a : Option Addr} {len cap : Nat} {d : DataW H} {p : List MemPlace}
    (h : DataW.trod enc Try.prog W base spare held fuel 24 [.slice a len cap] = some (d, p)) : ∃ l : List UInt8, l.length = len ∧ BLies W a l ∧ len + 1 ≤ Rows.uptoBulk d ∧ len ≤ cap ∧ cap ≤ maxLen := by
  rcases open_ints Try.underlying24 Try.underlying5 (by kernel_rfl) h with ⟨hcs, hx⟩ | ⟨x, len', cap', zs, hcs, _, hl, hm, hz, hx, hcell, hwz⟩
  · simp at hcs
    obtain ⟨rfl, rfl, rfl⟩ := hcs
    injection hx with hx _
    subst hx
    exact ⟨[], rfl, BLies.nil _ _, by simp [Rows.uptoBulk], Nat.le_refl _, by unfold maxLen; omega⟩
  · simp at hcs
    obtain ⟨rfl, rfl, rfl⟩ := hcs
    injection hx with hx _
    subst hx
    have hzl : len ≤ zs.length := by rw [hz]; split <;> omega
    refine ⟨(zs.take len).map fun z => UInt8.ofNat z.toNat, by simp; omega, ?_, ?_, hl, hm⟩
    · intro k hk
      have hk' : k < zs.length := by simp at hk; omega
      obtain ⟨b, off, rfl, hc⟩ := ints_at hcell (by omega)
      refine ⟨b, off, rfl, ?_⟩
      rw [hc k hk']
      have e : zs.getD k 0 = zs[k] := by simp [hk']
      rw [e]
      simp only [List.getElem_map, List.getElem_take]
      rw [u8_of_wf (hwz _ (List.getElem_mem _))]
    · have h1 := bulk_slice (H := H) (lits .u8 (zs.take len)) (lits .u8 (zs.drop len))
      have h2 := bulk_length (H := H) (lits .u8 (zs.take len))
      have h3 : (lits (H := H) .u8 (zs.take len)).length = len := by simp [lits]; omega
      omega

theorem i64_of_wf {n : Int} (h : (Lit.int .i64 n).wf = true) : -9223372036854775808 ≤ n ∧ n ≤ 9223372036854775807 := by
  simpa [Lit.wf, IntKind.min, IntKind.max, IntKind.signed, IntKind.bits] using h
theorem byte_of_wf {n : Int} (h : (Lit.int .u8 n).wf = true) : ∃ m : UInt8, n = (m.toNat : Int) := ⟨_, (u8_of_wf h).symm⟩

theorem grown_all {w w' : World} (h : w.grownBy w' none) : Below w.heap.size w w' := ⟨h.os, h.tape, h.output, h.size, fun k hk => h.block k hk (by simp)⟩

end Go.Proofs.Ytkdmebcfedehiaa
/- A list of whole numbers that came in, read. -/
namespace Go.Proofs.Ytkdmebcfedehiaa
open Go.ChangeShapes Go.WideShapes Go.ChangeAt Go.RowKit

/-- whole numbers as cells -/
def IV (zs : List Int) : List Value := zs.map (fun z => .int .i64 z)

theorem rd_ints {H : Type} {enc : TypeId × Value → H} {W : World} {base : Nat} {spare : Nat → Bool} {held : Bool} {fuel : Nat} {a : Option Addr} {len cap : Nat} {d : DataW H} {p : List MemPlace}
    (h : DataW.trod enc Try.prog W base spare held fuel 23 [.slice a len cap] = some (d, p)) : ∃ zs : List Int, zs.length = len ∧ Lies W a (IV zs) ∧ (∀ z ∈ zs, -9223372036854775808 ≤ z ∧ z ≤ 9223372036854775807) ∧ len + 1 ≤ Rows.uptoBulk d ∧ len ≤ cap ∧ cap ≤ maxLen := by
  rcases open_ints Try.underlying23 Try.underlying3 (by kernel_rfl) h with ⟨hcs, hx⟩ | ⟨x, len', cap', zs, hcs, _, hl, hm, hz, hx, hcell, hwz⟩
  · simp at hcs
    obtain ⟨rfl, rfl, rfl⟩ := hcs
    injection hx with hx _
    subst hx
    exact ⟨[], rfl, fun k hk => absurd hk (by simp [IV]), fun z hz => (by cases hz), by simp [Rows.uptoBulk], Nat.le_refl _, by unfold maxLen; omega⟩
  · simp at hcs
    obtain ⟨rfl, rfl, rfl⟩ := hcs
    injection hx with hx _
    subst hx
    have hzl : len ≤ zs.length := by rw [hz]; split <;> omega
    refine ⟨zs.take len, by simp; omega, ?_, fun z hz2 => i64_of_wf (hwz _ (List.mem_of_mem_take hz2)), ?_, hl, hm⟩
    · intro k hk
      have hk' : k < zs.length := by simp [IV] at hk; omega
      obtain ⟨b, off, rfl, hc⟩ := ints_at hcell (by omega)
      refine ⟨b, off, rfl, ?_⟩
      rw [hc k hk']
      have e : zs.getD k 0 = zs[k] := by simp [hk']
      rw [e]
      simp [IV]
    · have h1 := bulk_slice (H := H) (lits .i64 (zs.take len)) (lits .i64 (zs.drop len))
      have h2 := bulk_length (H := H) (lits .i64 (zs.take len))
      have h3 : (lits (H := H) .i64 (zs.take len)).length = len := by simp [lits]; omega
      omega

end Go.Proofs.Ytkdmebcfedehiaa
/- Replies that came in. -/
namespace Go.Proofs.Ytkdmebcfedehiaa
open Go.ChangeShapes Go.WideShapes Go.ChangeAt Go.RowKit

theorem bulk_mem {H : Type} {l : List (DataW H)} {d : DataW H} (h : d ∈ l) : Rows.uptoBulk d ≤ Rows.uptoBulkAll l := by
  induction l with
  | nil => cases h
  | cons x r ih =>
    simp only [Rows.uptoBulkAll]
    rcases List.mem_cons.1 h with rfl | h
    · omega
    · have := ih h; omega
section
variable {H : Type} {enc : TypeId × Value → H} {w : World} {base : Nat} {spare : Nat → Bool} {held : Bool}
set_option maxRecDepth 100000 in
/-- a reply's three cells -/
theorem rd_rep {fuel : Nat} {cs : List Value} {d : DataW H} {p : List MemPlace} (hl : cs.length = 3) (hf : DataW.trod enc Try.prog w base spare held fuel 26 cs = some (d, p)) :
    ∃ (k : Nat) (an : Option Addr) (nn cn : Nat) (ab : Option Addr) (nb cb : Nat) (ns : List Int) (bs : List UInt8), cs = [.int .u8 (k : Int), .slice an nn cn, .slice ab nb cb] ∧ k < 256 ∧ Lies w an (IV ns) ∧ ns.length = nn ∧ BLies w ab bs ∧ bs.length = nb ∧ nn ≤ cn ∧ cn ≤ maxLen ∧ nb ≤ cb ∧ cb ≤ maxLen ∧ nn + 1 ≤ Rows.uptoBulk d ∧ nb + 1 ≤ Rows.uptoBulk d := by
  obtain ⟨xs, m, _, hx, _, hxl, hi⟩ := DataW.trod_struct Try.underlying26 hf
  have h0 := hi 0 _ rfl
  have h1 := hi 1 _ rfl
  have h2 := hi 2 _ rfl
  have hxl3 : xs.length = 3 := hxl
  match cs, hl with
  | [v0, v1, v2], _ =>
    match xs, hxl3 with
    | [y0, y1, y2], _ =>
      have t0 : DataW.trod enc Try.prog w base spare held m 22 [v0] = some (y0.1, y0.2) := h0
      have t1 : DataW.trod enc Try.prog w base spare held m 23 [v1] = some (y1.1, y1.2) := h1
      have t2 : DataW.trod enc Try.prog w base spare held m 24 [v2] = some (y2.1, y2.2) := h2
      have b1 : Rows.uptoBulk y1.1 ≤ Rows.uptoBulk d := by
        injection hx with hx _
        rw [hx]
        simp only [Rows.uptoBulk]
        have := bulk_mem (l := [y0, y1, y2].map (·.1)) (d := y1.1) (by simp)
        omega
      have b2 : Rows.uptoBulk y2.1 ≤ Rows.uptoBulk d := by
        injection hx with hx _
        rw [hx]
        simp only [Rows.uptoBulk]
        have := bulk_mem (l := [y0, y1, y2].map (·.1)) (d := y2.1) (by simp)
        omega
      obtain ⟨n, ea, _, wa⟩ := DataW.trod_int Try.underlying22 t0
      injection ea with ea _
      obtain ⟨x, rfl⟩ := byte_of_wf wa
      have hs1 : ∃ a ln c, v1 = .slice a ln c := by
        rcases open_ints Try.underlying23 Try.underlying3 (by kernel_rfl) t1 with ⟨hcs, _⟩ | ⟨x, len', cap', zs, hcs, _⟩
        · injection hcs with hcs; exact ⟨_, _, _, hcs⟩
        · injection hcs with hcs; exact ⟨_, _, _, hcs⟩
      have hs2 : ∃ a ln c, v2 = .slice a ln c := by
        rcases open_ints Try.underlying24 Try.underlying5 (by kernel_rfl) t2 with ⟨hcs, _⟩ | ⟨x, len', cap', zs, hcs, _⟩
        · injection hcs with hcs; exact ⟨_, _, _, hcs⟩
        · injection hcs with hcs; exact ⟨_, _, _, hcs⟩
      obtain ⟨an, nn, cn, rfl⟩ := hs1
      obtain ⟨ab, nb, cb, rfl⟩ := hs2
      obtain ⟨ns, q1, q2, q3, q4, q5, q6⟩ := rd_ints t1
      obtain ⟨bs, r1, r2, r3, r4, r5⟩ := rd_bytes t2
      exact ⟨x.toNat, an, nn, cn, ab, nb, cb, ns, bs, by rw [ea], x.toNat_lt, q2, q1, r2, r1, q5, q6, r4, r5, by omega, by omega⟩
end
end Go.Proofs.Ytkdmebcfedehiaa
/- strongroomkit.markBytes, SameBytes. -/
namespace Go.Proofs.Ytkdmebcfedehiaa
open Go.RowKit

/-- the mark of place i of list k -/
def mrk (k i : Int) : UInt8 := UInt8.ofNat ((151 * k + 7 * i + 1) % 256).toNat
theorem mrk_toNat (k i : Int) : ((mrk k i).toNat : Int) = (151 * k + 7 * i + 1) % 256 := by
  unfold mrk
  rw [UInt8.toNat_ofNat']
  omega

set_option maxHeartbeats 400000 in
theorem mark_any (k i : Int) (w : World) (hk : 0 ≤ k ∧ k ≤ 1000000000) (hi : 0 ≤ i ∧ i ≤ 1000000000000) :
    Calls Try.prog 46 #[.int .i64 k, .int .i64 i] w fun e w' => e = .returned (.int .u8 ((mrk k i).toNat : Int)) ∧ w = w' := by
  obtain ⟨k1, k2⟩ := hk
  obtain ⟨i1, i2⟩ := hi
  rw [mrk_toNat]
  go_enter Try.func46, Try.ntmps46
  go_wp2
  go_ret
  exact ⟨rfl, rfl⟩

theorem ret_bool {a b : Bool} (h : a = b) : Ending.returned (.bool a) = .returned (.bool b) := by rw [h]

theorem take_step {l m : List UInt8} {k : Nat} (hl : k < l.length) (hm : k < m.length) (h : l.take k = m.take k) (e : l[k] = m[k]) : l.take (k + 1) = m.take (k + 1) := by
  rw [List.take_succ_eq_append_getElem hl, List.take_succ_eq_append_getElem hm, h, e]

set_option maxHeartbeats 400000 in
theorem same_any (a a' : Option Addr) (c c' : Nat) (la lb : List UInt8) (w : World) (ha : BLies w a la) (hb : BLies w a' lb) (hn : la.length ≤ maxLen) :
    Calls Try.prog 12 #[.slice a la.length c, .slice a' lb.length c'] w fun e w' => e = .returned (.bool (decide (la = lb))) ∧ ∃ n, w' = w.drewN n := by
  unfold maxLen at hn
  have HA : Hid (BLies w a la) := ha
  have HB : Hid (BLies w a' lb) := hb
  clear ha hb
  by_cases hl : la.length = lb.length
  · have hlb : ((la.length : Int) != (lb.length : Int)) = false := by simp [hl]
    have HL : Hid (la.length = lb.length) := hl
    clear hl
    go_enter Try.func12, Try.ntmps12
    go_wp2
    go_loopw [5] (fun i wr => ∃ k n : Nat, k ≤ la.length ∧ i = .int .i64 k ∧ wr = w.drewN n ∧ la.take k = lb.take k) (fun i _ => la.length - (intOf i).toNat)
    case atStart => exact ⟨0, 0, by omega, rfl, rfl, by simp⟩
    case round =>
      obtain ⟨k, n, hk, rfl, rfl, ht⟩ := hrel
      have HT : Hid (la.take k = lb.take k) := ht
      clear ht
      by_cases hlt : k < la.length
      · have hlt2 : k < lb.length := by have := HL.out; omega
        obtain ⟨b, off, rfl, hc⟩ := HA.out k hlt
        obtain ⟨b', off', rfl, hc'⟩ := HB.out k hlt2
        by_cases he : la[k] = lb[k]
        · have hbn : (((la[k]).toNat : Int) != ((lb[k]).toNat : Int)) = false := by simp [he]
          go_wp2
          go_quiet (fail)
          go_wp2
          go_roundw
          case rel => exact ⟨k + 1, n + nq, by omega, by go_num, by simp, take_step hlt hlt2 HT.out he⟩
          case measure => simp [intOf]; omega
        · have hbn : (((la[k]).toNat : Int) != ((lb[k]).toNat : Int)) = true := by
            rw [bne_iff_ne]
            intro h
            exact he (UInt8.toNat_inj.1 (by omega))
          go_wp2
          go_quiet (fail)
          go_wp2
          go_ret
          exact ⟨ret_bool (by rw [eq_comm, decide_eq_false_iff_not]; rintro rfl; exact he rfl), n + nq, by simp⟩
      · go_wp2
        go_ret
        exact ⟨ret_bool (by have h1 := HT.out; have h2 := HL.out; rw [eq_comm, decide_eq_true_iff]; rwa [List.take_of_length_le (by omega), List.take_of_length_le (by omega)] at h1), _, rfl⟩
  · have hlb : ((la.length : Int) != (lb.length : Int)) = true := by rw [bne_iff_ne]; omega
    go_enter Try.func12, Try.ntmps12
    go_wp2
    go_ret
    exact ⟨ret_bool (by rw [eq_comm, decide_eq_false_iff_not]; rintro rfl; exact hl rfl), 0, rfl⟩

theorem same_n (a a' : Option Addr) (c c' n n' : Nat) (la lb : List UInt8) (w : World) (ha : BLies w a la) (hb : BLies w a' lb) (hla : la.length = n) (hlb : lb.length = n') (hn : n ≤ maxLen) :
    Calls Try.prog 12 #[.slice a n c, .slice a' n' c'] w fun e w' => e = .returned (.bool (decide (la = lb))) ∧ ∃ n, w' = w.drewN n := by
  subst hla; subst hlb
  exact same_any a a' c c' la lb w ha hb hn
/-- two lists that are the same -/
theorem same_yes (a a' : Option Addr) (c c' n n' : Nat) (la : List UInt8) (w : World) (ha : BLies w a la) (hb : BLies w a' la) (hla : la.length = n) (hlb : la.length = n') (hn : n ≤ maxLen) :
    Calls Try.prog 12 #[.slice a n c, .slice a' n' c'] w fun e w' => e = .returned (.bool true) ∧ ∃ n, w' = w.drewN n :=
  (same_n a a' c c' n n' la la w ha hb hla hlb hn).mono fun e w' ⟨h1, h2⟩ => ⟨by rw [h1]; simp, h2⟩

end Go.Proofs.Ytkdmebcfedehiaa
/- strongroomkit.LentBytes: the list, and marks behind it, in memory of its own. -/
namespace Go.Proofs.Ytkdmebcfedehiaa
open Go.RowKit

/-- what LentBytes gives of a list: the list, and the marks behind it -/
def marks (n m : Nat) : List UInt8 := (List.range m).map fun (i : Nat) => mrk 0 ((n : Int) + (i : Int))
def lent (l : List UInt8) : List UInt8 := l ++ marks l.length 70
theorem marks_succ (n m : Nat) : marks n (m + 1) = marks n m ++ [mrk 0 ((n : Int) + (m : Int))] := by simp [marks, List.range_succ]
theorem marks_length (n m : Nat) : (marks n m).length = m := by simp [marks]
theorem lent_length (l : List UInt8) : (lent l).length = l.length + 70 := by simp [lent, marks_length]

/-- bytes that are owned -/
def BOwn (w : World) (base : Nat) (a : Option Addr) (n c : Nat) (l : List UInt8) : Prop := Own w base 5 1 a n c (l.map bval)

theorem BOwn.len {w : World} {base : Nat} {a : Option Addr} {n c : Nat} {l : List UInt8} (h : BOwn w base a n c l) : l.length = n := by
  have := h.1; simpa using this

theorem BOwn.cap {w : World} {base : Nat} {a : Option Addr} {n c : Nat} {l : List UInt8} (h : BOwn w base a n c l) : n ≤ c ∧ c ≤ maxLen := Own.cap h

theorem BOwn.lies {w : World} {base : Nat} {a : Option Addr} {n c : Nat} {l : List UInt8} (h : BOwn w base a n c l) : BLies w a l := by
  intro k hk
  obtain ⟨g, e, _, _, hc, _⟩ := Own.cell h k (by simpa using hk)
  exact ⟨g, 0, e, by rw [Nat.zero_add, hc]; simp [bval]⟩

theorem elB : El Try.prog 24 5 (.int .u8 0) 1 1 :=
  ⟨Try.underlying24, info_parts (by kernel_rfl), rfl, by decide⟩

theorem BLies.news {w : World} {b off : Nat} {l : List UInt8} (h : BLies w (some ⟨b, off, none⟩) l) : ∀ j u, (l.map bval)[j]? = some u → w.cell? ((⟨b, off, none⟩ : Addr).add j) = some u := by
  intro j u hu
  obtain ⟨hj, rfl⟩ := List.getElem?_eq_some_iff.1 hu
  obtain ⟨b', off', e, hc⟩ := h j (by simpa using hj)
  injection e with e; injection e with e1 e2
  subst e1; subst e2
  rw [Addr.add_lit, hc]
  simp [bval]
theorem BLies.addr {w : World} {a : Option Addr} {l : List UInt8} (h : BLies w a l) (hl : 0 < l.length) : ∃ b off, a = some ⟨b, off, none⟩ := by
  obtain ⟨b, off, e, _⟩ := h 0 hl
  exact ⟨b, off, e⟩
theorem bval_one (l : List UInt8) : ∀ u ∈ l.map bval, u.oneCell' = true := by
  intro u hu
  obtain ⟨x, _, rfl⟩ := List.mem_map.1 hu
  rfl

theorem map_take_succ {l : List UInt8} {k : Nat} (h : k < l.length) : (l.take (k + 1)).map bval = (l.take k).map bval ++ [.int .u8 ((l[k]).toNat : Int)] := by
  rw [List.take_succ_eq_append_getElem h, List.map_append]; rfl

set_option maxRecDepth 100000 in
set_option maxHeartbeats 1000000 in
theorem lent_any (a : Option Addr) (c : Nat) (l : List UInt8) (w : World) (ha : BLies w a l) (hn : l.length ≤ 4000000000) :
    Calls Try.prog 34 #[.slice a l.length c] w fun e w' => ∃ g cap, e = .returned (.slice (some ⟨g, 0, none⟩) (l.length + 70) cap) ∧ BOwn w' w.heap.size (some ⟨g, 0, none⟩) (l.length + 70) cap (lent l) ∧ w.grownBy w' none := by
  have HA : Hid (BLies w a l) := ha
  clear ha
  go_enter Try.func34, Try.ntmps34
  go_wp2
  go_loopw [3, 4] (fun v i wr => ∃ (k : Nat) (a' : Option Addr) (c' : Nat), k ≤ l.length ∧ i = .int .i64 k ∧ v = .slice a' k c' ∧ BOwn wr w.heap.size a' k c' (l.take k) ∧ w.grownBy wr none) (fun _ i _ => l.length - (intOf i).toNat)
  case atStart => exact ⟨0, none, 0, by omega, rfl, rfl, Own.nil _ _ _ _ _, World.grownBy.refl _ _⟩
  case round =>
    obtain ⟨k, a', c', hk, rfl, rfl, hown, hg⟩ := hrel
    by_cases hlt : k < l.length
    · obtain ⟨b, off, rfl, hc⟩ := HA.out k hlt
      have hc' : wr.cell? ⟨b, off + k, none⟩ = some (.int .u8 ((l[k]).toNat : Int)) := hg.cell hc (by simp)
      have hsz := hg.size
      go_wp2_with (at_builtin; refine wpList_push elB rfl (.tmp 12) (.tmp 17) rfl rfl hown (.int .u8 ((l[k]).toNat : Int)) rfl rfl (by unfold maxLen; omega) (by omega) hsz ?_; intro g cap w1 hown1 hgr)
      go_roundw
      case rel => exact ⟨k + 1, _, _, by omega, by go_num, rfl, by unfold BOwn; rw [map_take_succ hlt]; exact hown1, hgr.grew.grown hown hg (Nat.le_refl _)⟩
      case measure => simp [intOf]; omega
    · obtain rfl : k = l.length := by omega
      go_wp2
      go_loopw [3, 5] (fun v i wr => ∃ (k : Nat) (a' : Option Addr) (c' : Nat), k ≤ 70 ∧ i = .int .i64 k ∧ v = .slice a' (l.length + k) c' ∧ BOwn wr w.heap.size a' (l.length + k) c' (l ++ marks l.length k) ∧ w.grownBy wr none) (fun _ i _ => 70 - (intOf i).toNat)
      case atStart => exact ⟨0, _, _, by omega, rfl, rfl, by simpa [marks] using hown, hg⟩
      case round =>
        obtain ⟨k, a', c', hk, rfl, rfl, hown, hg⟩ := hrel
        have hsz := hg.size
        by_cases hlt : k < 70
        · go_wp2_with (first | (go_at_call 46; refine (mark_any _ _ _ (by omega) (by omega)).mono ?_; rintro e w' ⟨rfl, rfl⟩) | (at_builtin; refine wpList_push elB rfl (.tmp 23) (.tmp 29) rfl rfl hown (.int .u8 ((mrk 0 ((l.length : Int) + (k : Int))).toNat : Int)) rfl rfl (by unfold maxLen; omega) (by omega) hsz ?_; intro g cap w1 hown1 hgr))
          go_roundw
          case rel => exact ⟨k + 1, _, _, by omega, by go_num, rfl, by unfold BOwn; rw [marks_succ, ← List.append_assoc, List.map_append]; exact hown1, hgr.grew.grown hown hg (Nat.le_refl _)⟩
          case measure => simp [intOf]; omega
        · obtain rfl : k = 70 := by omega
          go_wp2
          go_ret
          obtain ⟨g, rfl, _⟩ := hown.block (by have := hown.2; omega)
          exact ⟨g, c', rfl, hown, hg⟩

theorem lent_n (a : Option Addr) (c n : Nat) (l : List UInt8) (w : World) (ha : BLies w a l) (hl : l.length = n) (hn : n ≤ 4000000000) :
    Calls Try.prog 34 #[.slice a n c] w fun e w' => ∃ g cap, e = .returned (.slice (some ⟨g, 0, none⟩) (n + 70) cap) ∧ BOwn w' w.heap.size (some ⟨g, 0, none⟩) (n + 70) cap (lent l) ∧ w.grownBy w' none := by
  subst hl
  exact lent_any a c l w ha hn

theorem lent_take (l : List UInt8) (n : Nat) (h : l.length = n) : (lent l).take n = l := by
  subst h; simp [lent]

end Go.Proofs.Ytkdmebcfedehiaa
/- bytes.Clone: the same bytes in memory of its own. -/
namespace Go.Proofs.Ytkdmebcfedehiaa
open Go.RowKit

set_option maxRecDepth 100000 in
set_option maxHeartbeats 400000 in
theorem clone_n (a : Option Addr) (c n : Nat) (l : List UInt8) (w : World) (ha : BLies w a l) (hl : l.length = n) (hn : n ≤ 4000000100) :
    Calls Try.prog 28 #[.slice a n c] w fun e w' => ∃ a' c', e = .returned (.slice a' n c') ∧ BOwn w' w.heap.size a' n c' l ∧ w.grownBy w' none := by
  have qT : ∀ (w : World) (a : Option Addr) (n c n' c' : Nat), (binOp .eql 24 (.slice a n c) (.slice none n' c')).run Try.prog w = .ok (.bool a.isNone) w := fun w a n c n' c' => Lib.run_eql_slice_nil w _ _ a n c n' c' Try.underlying24
  by_cases h0 : n = 0
  · subst h0
    obtain rfl : l = [] := List.eq_nil_of_length_eq_zero hl
    clear ha hl
    cases a with
    | none =>
      go_enter Try.func28, Try.ntmps28
      go_wp2
      go_ret
      exact ⟨none, 0, rfl, Own.nil _ _ _ _ _, World.grownBy.refl _ _⟩
    | some ad =>
      go_enter Try.func28, Try.ntmps28
      go_wp2
      go_ret
      exact ⟨_, _, rfl, Own.nil _ _ _ _ _, World.grownBy_alloc _ _ _⟩
  · obtain ⟨b, off, rfl⟩ := ha.addr (by omega)
    have HA := Lib.hid ha
    have HL := Lib.hid hl
    have hsz := Nat.le_succ w.heap.size
    clear ha hl
    go_enter Try.func28, Try.ntmps28
    go_wp2_with (at_builtin; refine wpList_app elB rfl (.tmp 5) (.tmp 6) rfl rfl (Own.nil _ w.heap.size _ _ _) ⟨b, off, none⟩ n c (l.map bval) rfl (by rw [List.length_map, HL.out, Nat.mul_one]) (HA.out.grown (World.grownBy_alloc _ _ _)).news (bval_one l) (by unfold maxLen; omega) (by omega) (by simp) (by omega) ?_; intro g cap w1 hown1 hgr)
    go_ret
    simp only [Nat.zero_add, List.nil_append] at hown1
    exact ⟨_, _, by simp, hown1, hgr.grew.grown (Own.nil _ w.heap.size 5 1 _) (World.grownBy_alloc w _ none) (Nat.le_refl _)⟩

end Go.Proofs.Ytkdmebcfedehiaa
/- A fresh variable of several cells that is written whole at once; rows that stand. -/
namespace Go.Proofs.Ytkdmebcfedehiaa
open Go.RowKit

/-- block g holds exactly the cells cs of a variable of type t -/
def Row (w : World) (g : Nat) (t : TypeId) (cs : Array Value) : Prop := w.heap[g]? = some (.cells cs t (0, 0))
theorem Row.lt {w : World} {g : Nat} {t : TypeId} {cs : Array Value} (h : Row w g t cs) : g < w.heap.size := (Array.getElem?_eq_some_iff.1 h).1
theorem Row.grown {w w' : World} {g : Nat} {t : TypeId} {cs : Array Value} (h : Row w g t cs) (hg : w.grownBy w' none) : Row w' g t cs :=
  (hg.block g h.lt (by simp)).trans h
theorem Row.grownNe {w w' : World} {g g' : Nat} {t : TypeId} {cs : Array Value} (h : Row w g t cs) (hg : w.grownBy w' (some g')) (hne : g ≠ g') : Row w' g t cs :=
  (hg.block g h.lt (by simpa using hne)).trans h
theorem Row.cell {w : World} {g : Nat} {t : TypeId} {cs : Array Value} (h : Row w g t cs) (k : Nat) : w.cell? ⟨g, k, none⟩ = cs[k]? := by
  unfold Row at h
  simp [World.cell?, h]

theorem Row.setc {w : World} {g : Nat} {t : TypeId} {cs : Array Value} (h : Row w g t cs) (k : Nat) (v : Value) : Row (w.setCell ⟨g, k, none⟩ v) g t (cs.setIfInBounds k v) := by
  unfold Row at h ⊢
  simp only [World.setCell, Array.getElem?_modify, ↓reduceIte, h, Option.map_some]
  simp
theorem Row.frozen {w : World} {g : Nat} {t : TypeId} {cs : Array Value} (h : Row w g t cs) (k : Nat) : w.frozen? ⟨g, k, none⟩ = false := by
  unfold Row at h
  simp [World.frozen?, h]

section
variable {P : Program}

theorem run_alloc_op (w : World) (ev : Operand → Value) {o : Oper} {T : TypeId} (ho : o.op = .alloc T) {i : TypeInfo} (hi : P.info? T = some i) {z : Value} (hz : i.zero = some z) :
    (execOp ev o).run P w = .ok (.value (.pointer (some ⟨w.heap.size, 0, none⟩))) (w.alloc (.cells z.cells T)) := by
  unfold execOp
  simp [ho, Instr.alloc, zeroValue, typeInfo, hi, hz, newVar, newRow]

theorem run_box_op (w : World) (ev : Operand → Value) {o : Oper} {T : TypeId} {x : Operand} (ho : o.op = .box T x) :
    (execOp ev o).run P w = .ok (.value (.pointer (some ⟨w.heap.size, 0, none⟩))) (w.alloc (.cells (ev x).cells T)) := by
  unfold execOp
  simp [ho, Instr.box, newVar, newRow]

theorem wpList_fresh {ops : Array Oper} {rest : List Oper} {o1 o2 : Oper} {a : Act} {w : World} {Q : Exit → Act → World → Prop} (hg1 : o1.guard = none) (hg2 : o2.guard = none) {T : TypeId} {d : Tmp} {x : Operand}
    (ho1 : o1.op = .alloc T) (hd : o1.dst = some d) (ho2 : o2.op = .store T (.tmp d) x) {i : TypeInfo} (hi : P.info? T = some i) {z : Value} (hz : i.zero = some z) (hsz : i.size = z.cells.size)
    (cs : Array Value) (hp : (a.put (some d) (.pointer (some ⟨w.heap.size, 0, none⟩))).eval (.tmp d) = .pointer (some ⟨w.heap.size, 0, none⟩)) (hx : (a.put (some d) (.pointer (some ⟨w.heap.size, 0, none⟩))).eval x = .agg cs)
    (hcs : z.cells.size = cs.size) (h1 : cs.all (·.oneCell') = true)
    (h : ∀ W, W.heap.size = w.heap.size + 1 → w.grownBy W none → Row W w.heap.size T cs → wpList P ops Q rest ((a.put (some d) (.pointer (some ⟨w.heap.size, 0, none⟩))).put o2.dst undef) W) :
    wpList P ops Q (o1 :: o2 :: rest) a w := by
  refine wpList_plain hg1 fun K hK => ?_
  unfold Oper.wp
  rw [run_alloc_op w a.eval ho1 hi hz, Oper.upon_value]
  refine hK _ _ ?_
  rw [hd]
  have hrow : (w.alloc (.cells z.cells T)).heap[w.heap.size]? = some (.cells z.cells T (0, 0)) := heap_alloc_new w _
  refine wpList_store_row hg2 T (.tmp d) x ho2 w.heap.size cs hp hx T z.cells hrow (by rw [hi]; simp [hsz, hcs]) hcs h1 ?_
  refine h _ (by simp) ?_ (setRow_heap _ _ _ _ _ _ hrow)
  exact grownBy_old (World.grownBy_alloc w (.cells z.cells T) none) (grownBy_setRow _ w.heap.size cs) (Nat.le_refl _)

theorem wpList_made {ops : Array Oper} {rest : List Oper} {o1 : Oper} {a : Act} {w : World} {Q : Exit → Act → World → Prop} (hg1 : o1.guard = none) {T : TypeId} (ho1 : o1.op = .alloc T) {i : TypeInfo} (hi : P.info? T = some i) {z : Value} (hz : i.zero = some z)
    (h : ∀ W, W.heap.size = w.heap.size + 1 → w.grownBy W none → Row W w.heap.size T z.cells → wpList P ops Q rest (a.put o1.dst (.pointer (some ⟨w.heap.size, 0, none⟩))) W) : wpList P ops Q (o1 :: rest) a w := by
  refine wpList_plain hg1 fun K hK => ?_
  unfold Oper.wp
  rw [run_alloc_op w a.eval ho1 hi hz, Oper.upon_value]
  exact hK _ _ (h _ (by simp) (World.grownBy_alloc w (.cells z.cells T) none) (heap_alloc_new w _))

theorem wpList_putrow {ops : Array Oper} {rest : List Oper} {o : Oper} {a : Act} {w : World} {Q : Exit → Act → World → Prop} (hg : o.guard = none) {T : TypeId} {x y : Operand} (ho : o.op = .store T x y)
    (g : Nat) (hx : a.eval x = .pointer (some ⟨g, 0, none⟩)) (cs : Array Value) (hy : a.eval y = .agg cs) {old : Array Value} (hr : Row w g T old) (hi : (P.info? T).map (·.size) = some cs.size) (hold : old.size = cs.size) (h1 : cs.all (·.oneCell') = true)
    (h : ∀ W, w.grownBy W (some g) → Row W g T cs → wpList P ops Q rest (a.put o.dst undef) W) : wpList P ops Q (o :: rest) a w :=
  wpList_store_row hg T x y ho g cs hx hy T old hr hi hold h1 (h _ (grownBy_setRow _ _ _) (setRow_heap _ _ _ _ _ _ hr))

theorem wpList_boxed {ops : Array Oper} {rest : List Oper} {o : Oper} {a : Act} {w : World} {Q : Exit → Act → World → Prop} (hg : o.guard = none) {T : TypeId} {x : Operand} (ho : o.op = .box T x)
    (cs : Array Value) (hx : a.eval x = .agg cs)
    (h : ∀ W, W.heap.size = w.heap.size + 1 → w.grownBy W none → Row W w.heap.size T cs → wpList P ops Q rest (a.put o.dst (.pointer (some ⟨w.heap.size, 0, none⟩))) W) :
    wpList P ops Q (o :: rest) a w := by
  refine wpList_plain hg fun K hK => ?_
  unfold Oper.wp
  rw [run_box_op w a.eval ho, Oper.upon_value, hx]
  refine hK _ _ ?_
  exact h _ (by simp) (World.grownBy_alloc w (.cells cs T) none) (heap_alloc_new w (.cells cs T))

end

section
variable {P : Program}
theorem run_load_op (w : World) (ev : Operand → Value) {o : Oper} (ty : TypeId) (x : Operand) (ho : o.op = .load ty x) (g : Nat) (hx : ev x = .pointer (some ⟨g, 0, none⟩)) (t : TypeId) (cs : Array Value) {d : TypeDesc} (hg : Row w g t cs)
    (hu : P.underlying ty = some d) (hd : (match d with | .struct _ | .array _ _ => true | _ => false) = true) (hi : (P.info? ty).map (·.size) = some cs.size) : (execOp ev o).run P w = .ok (.value (.agg cs)) w := by
  unfold execOp
  simp only [ho, hx, Instr.loadAt, Instr.sureAddr, Sem.run_bind, Sem.run_pure, Result.andThen_ok, run_loadVar_row w g t ty cs (0, 0) d hg hu hd hi]
end

end Go.Proofs.Ytkdmebcfedehiaa
/- Variables of one cell that lie in memory: each a letter for the world; rows of bytes; rows of zeros that are made. -/
namespace Go.Proofs.Ytkdmebcfedehiaa
open Go.RowKit

section
variable {P : Program} {ops : Array Oper} {rest : List Oper} {a : Act} {w : World} {Q : Exit → Act → World → Prop}

end

/-- bytes as cells -/
def rowB (l : List UInt8) : Array Value := (l.map bval).toArray
/-- the block g holds these bytes, and nothing else -/
def BRow (w : World) (g : Nat) (t : TypeId) (l : List UInt8) : Prop := Row w g t (rowB l)
section
variable {w w' : World} {g : Nat} {t : TypeId} {l : List UInt8}
theorem BRow.lt (h : BRow w g t l) : g < w.heap.size := Row.lt h
theorem BRow.cell (h : BRow w g t l) (k : Nat) (hk : k < l.length) : w.cell? ⟨g, k, none⟩ = some (.int .u8 ((l.getD k 0).toNat : Int)) := by
  rw [Row.cell h k]
  simp [rowB, hk, bval]
theorem BRow.frozen (h : BRow w g t l) (k : Nat) : w.frozen? ⟨g, k, none⟩ = false := Row.frozen h k
theorem BRow.set (h : BRow w g t l) (k : Nat) (x : UInt8) : BRow (w.setCell ⟨g, k, none⟩ (.int .u8 (x.toNat : Int))) g t (l.set k x) := by
  have h' := Row.setc h k (.int .u8 (x.toNat : Int))
  unfold BRow
  rw [show rowB (l.set k x) = (rowB l).setIfInBounds k (.int .u8 (x.toNat : Int)) by unfold rowB; rw [List.map_set, ← List.setIfInBounds_toArray]; rfl]
  exact h'
theorem BRow.grown (h : BRow w g t l) (hg : w.grownBy w' none) : BRow w' g t l := Row.grown h hg
theorem BRow.grownNe {g' : Nat} (h : BRow w g t l) (hg : w.grownBy w' (some g')) (hne : g ≠ g') : BRow w' g t l := Row.grownNe h hg hne
theorem BRow.lies (h : BRow w g t l) : BLies w (some ⟨g, 0, none⟩) l := by
  intro k hk
  refine ⟨g, 0, rfl, ?_⟩
  rw [Nat.zero_add, BRow.cell h k hk]
  simp [hk]
theorem BRow.own (h : BRow w g t l) {base : Nat} (hb : base ≤ g) (n : Nat) (hn : l.length = n) (hm : n ≤ maxLen) : Own w base t 1 (some ⟨g, 0, none⟩) n n (l.map bval) := by
  subst hn
  exact ⟨by simp, .inr ⟨g, rowB l, rfl, hb, h, Nat.le_refl _, hm, by simp [rowB], by simp [rowB, List.take_of_length_le]⟩⟩
end
section
variable {P : Program} {ops : Array Oper} {rest : List Oper} {a : Act} {w : World} {Q : Exit → Act → World → Prop}
end

end Go.Proofs.Ytkdmebcfedehiaa
/- What a stretch of a walk may change: Ch, for rows that are owned, boxes, bytes that are read. -/
namespace Go.Proofs.Ytkdmebcfedehiaa
open Go.RowKit

theorem Ch.ofNone {w w' : World} (h : w.grownBy w' none) (S : Nat → Prop) : Ch S w w' := ⟨h.os, h.tape, h.output, h.size, fun k hk _ => h.block k hk (by simp)⟩
theorem Ch.ofSome {w w' : World} {g : Nat} (h : w.grownBy w' (some g)) {S : Nat → Prop} (hS : S g) : Ch S w w' :=
  ⟨h.os, h.tape, h.output, h.size, fun k hk hn => h.block k hk (by simp only [ne_eq, Option.some.injEq]; intro e; exact hn (e ▸ hS))⟩
theorem Ch.then {S : Nat → Prop} {a b c : World} (h : Ch S a b) (k : b.grownBy c none) : Ch S a c := h.trans (Ch.ofNone k S) (fun _ _ h => h)
theorem Ch.mono {S T : Nat → Prop} {a b : World} (h : Ch S a b) (hT : ∀ g, g < a.heap.size → S g → T g) : Ch T a b := ⟨h.os, h.tape, h.output, h.size, fun k hk hn => h.block k hk (fun hs => hn (hT k hk hs))⟩
theorem Ch.fresh {S : Nat → Prop} {w0 w w' : World} (hg : w0.grownBy w none) (h : Ch S w w') (hS : ∀ g, g < w0.heap.size → ¬ S g) : w0.grownBy w' none :=
  ⟨h.os.trans hg.os, h.tape.trans hg.tape, h.output.trans hg.output, Nat.le_trans hg.size h.size, fun k hk _ => (h.block k (Nat.lt_of_lt_of_le hk hg.size) (hS k hk)).trans (hg.block k hk (by simp))⟩
theorem Ch.some' {w w' : World} {g : Nat} {S : Nat → Prop} (h : Ch S w w') (hS : ∀ k, k < w.heap.size → S k → k = g) : w.grownBy w' (some g) :=
  ⟨h.os, h.tape, h.output, h.size, fun k hk hn => h.block k hk (fun hs => hn (by rw [hS k hk hs]))⟩
theorem Own.ch {S : Nat → Prop} {w w' : World} {base : Nat} {e : TypeId} {size : Nat} {a : Option Addr} {n c : Nat} {xs : List Value} (h : Own w base e size a n c xs) (hc : Ch S w w') (hS : 0 < c → ∀ g, a = some ⟨g, 0, none⟩ → ¬ S g) : Own w' base e size a n c xs :=
  h.kept' fun h0 g e hl => hc.block g hl (hS h0 g e)
theorem Row.ch {S : Nat → Prop} {w w' : World} {g : Nat} {t : TypeId} {cs : Array Value} (h : Row w g t cs) (hc : Ch S w w') (hS : ¬ S g) : Row w' g t cs := (hc.block g h.lt hS).trans h
theorem BLies.ch {S : Nat → Prop} {w w' : World} {a : Option Addr} {l : List UInt8} (h : BLies w a l) (hc : Ch S w w') (hS : ∀ b off, a = some ⟨b, off, none⟩ → ¬ S b) : BLies w' a l :=
  h.heap fun b off e hl => hc.block b hl (hS b off e)
/-- the block of what is owned -/
def In (a : Option Addr) (c : Nat) (g : Nat) : Prop := 0 < c ∧ a = some ⟨g, 0, none⟩
theorem Own.inn {w : World} {base : Nat} {e : TypeId} {size : Nat} {a : Option Addr} {n c : Nat} {xs : List Value} (h : Own w base e size a n c xs) {g : Nat} (hi : In a c g) : base ≤ g ∧ g < w.heap.size := by
  obtain ⟨g', e1, h1, h2⟩ := Own.block h hi.1
  rw [hi.2] at e1; injection e1 with e1; injection e1 with e1
  omega
/-- an append is a change of its own block alone -/
theorem GrewP.ch {w w1 : World} {a : Option Addr} {c : Nat} {a' : Option Addr} {c' : Nat} (h : GrewP w w1 a c a' c') : Ch (In a c) w w1 := by
  rcases h with ⟨g, rfl, rfl, hc, _, hg⟩ | ⟨g, _, _, hg⟩
  · exact Ch.ofSome hg ⟨hc, rfl⟩
  · exact Ch.ofNone hg _
/-- the block behind an append: the same, or a new one -/
theorem GrewP.inn {w w1 : World} {a : Option Addr} {c : Nat} {a' : Option Addr} {c' : Nat} (h : GrewP w w1 a c a' c') {g : Nat} (hi : In a' c' g) : In a c g ∨ w.heap.size ≤ g := by
  rcases h with ⟨g', e, rfl, hc, rfl, hg⟩ | ⟨g', e, hge, hg⟩
  · exact .inl hi
  · rw [e] at hi
    obtain ⟨_, h2⟩ := hi
    injection h2 with h2; injection h2 with h2
    subst h2
    exact .inr hge

end Go.Proofs.Ytkdmebcfedehiaa
/- octet's reader: NewReader, take, Bytes, Left, End of a reader that was made. -/
namespace Go.Proofs.Ytkdmebcfedehiaa
open Go.RowKit

/-- a reader that was made: is it at fault, what is left -/
structure Rdr (w : World) (g : Nat) (f : Bool) (rem : List UInt8) (la : Option Addr) (lm lc : Nat) : Prop where
  row : Row w g 96 #[.slice la lm lc, .bool true, .bool f]
  lies : BLies w la rem
  len : rem.length = lm
  cap : lm ≤ lc
  big : lc ≤ maxLen
  apart : 0 < lm → ∀ b off, la = some ⟨b, off, none⟩ → b ≠ g
theorem Rdr.grown {w w' : World} {g : Nat} {f : Bool} {rem : List UInt8} {la : Option Addr} {lm lc : Nat} (h : Rdr w g f rem la lm lc) (hg : w.grownBy w' none) : Rdr w' g f rem la lm lc :=
  ⟨h.row.grown hg, h.lies.grown hg, h.len, h.cap, h.big, h.apart⟩

theorem Rdr.set {w : World} {g : Nat} {f : Bool} {rem : List UInt8} {la : Option Addr} {lm lc : Nat} (h : Rdr w g f rem la lm lc) (k : Nat) (v : Value) : BLies (w.setCell ⟨g, k, none⟩ v) la rem := by
  intro i hi
  obtain ⟨b, off, e, hc⟩ := h.lies i hi
  refine ⟨b, off, e, ?_⟩
  have hne := h.apart (by have := h.len; omega) b off e
  exact (World.cell?_of_block (Below.heap_setCell _ _ _ _ hne)).trans hc

/-- what taking does: what comes, and how the reader is left -/
structure Took (w w' : World) (g : Nat) (f : Bool) (rem : List UInt8) (la : Option Addr) (a : Option Addr) (n : Nat) (p : List UInt8) (f' : Bool) (rem' : List UInt8) (la' : Option Addr) (lm' lc' : Nat) : Prop where
  lies : BLies w' a p
  len : p.length = n
  rdr : Rdr w' g f' rem' la' lm' lc'
  step : f' = false → f = false ∧ rem = p ++ rem'
  short : p.length + rem'.length ≤ rem.length
  grown : w.grownBy w' (some g)
  src : 0 < lm' → ∀ b off, la' = some ⟨b, off, none⟩ → ∃ o, la = some ⟨b, o, none⟩

/-- .. told behind the call -/
def TookP (w : World) (g : Nat) (f : Bool) (rem : List UInt8) (la : Option Addr) (e : Ending) (w' : World) : Prop :=
  ∃ a n c ok p f' rem' la' lm' lc', e = .returned (.tuple #[.slice a n c, .bool ok]) ∧ Took w w' g f rem la a n p f' rem' la' lm' lc'
theorem drop_lies {w : World} {b off : Nat} {l : List UInt8} (h : BLies w (some ⟨b, off, none⟩) l) (f : Nat) : BLies w (some ⟨b, off + f, none⟩) (l.drop f) := by
  intro k hk
  rw [List.length_drop] at hk
  obtain ⟨b', off', e, hc⟩ := h (f + k) (by omega)
  injection e with e; injection e with e1 e2
  subst e1; subst e2
  refine ⟨b, off + f, rfl, ?_⟩
  rw [Nat.add_assoc, hc]
  simp

/-- what Bytes does -/
def BytesP (w : World) (g : Nat) (f : Bool) (rem : List UInt8) (la : Option Addr) (e : Ending) (w' : World) : Prop :=
  ∃ a n c p f' rem' la' lm' lc', e = .returned (.slice a n c) ∧ BOwn w' w.heap.size a n c p ∧ Rdr w' g f' rem' la' lm' lc' ∧ (f' = false → f = false ∧ rem = p ++ rem') ∧ p.length + rem'.length ≤ rem.length ∧ w.grownBy w' (some g) ∧
    (0 < lm' → ∀ b off, la' = some ⟨b, off, none⟩ → ∃ o, la = some ⟨b, o, none⟩)

end Go.Proofs.Ytkdmebcfedehiaa
/- octet.width at each instance: a loop of one round a byte. -/
namespace Go.Proofs.Ytkdmebcfedehiaa
open Go.RowKit

set_option maxRecDepth 100000 in
set_option maxHeartbeats 400000 in
theorem width8_any (w : World) : Calls Try.prog 75 #[] w fun e w' => e = .returned (.int .i64 1) ∧ w = w' := by
  go_enter Try.func75, Try.ntmps75
  go_wp2
  go_rounds 2
  go_ret
  exact ⟨rfl, rfl⟩

set_option maxRecDepth 100000 in
set_option maxHeartbeats 400000 in
theorem width32_any (w : World) : Calls Try.prog 49 #[] w fun e w' => e = .returned (.int .i64 4) ∧ w = w' := by
  go_enter Try.func49, Try.ntmps49
  go_wp2
  go_rounds 5
  go_ret
  exact ⟨rfl, rfl⟩

set_option maxRecDepth 100000 in
set_option maxHeartbeats 400000 in
theorem width64_any (w : World) : Calls Try.prog 59 #[] w fun e w' => e = .returned (.int .i64 8) ∧ w = w' := by
  go_enter Try.func59, Try.ntmps59
  go_wp2
  go_rounds 9
  go_ret
  exact ⟨rfl, rfl⟩

end Go.Proofs.Ytkdmebcfedehiaa
/- octet.Big at each instance. -/
namespace Go.Proofs.Ytkdmebcfedehiaa
open Go.RowKit

/-- the k bytes of a number, the highest first -/
def bigL : Nat → Nat → List UInt8
  | 0, _ => []
  | k + 1, x => bigL k (x / 256) ++ [UInt8.ofNat x]
theorem bigL_length (k : Nat) : ∀ x, (bigL k x).length = k := by
  induction k with
  | zero => intro x; rfl
  | succ k ih => intro x; simp [bigL, ih]
theorem u8i (n : Nat) : ((UInt8.ofNat n).toNat : Int) = (n : Int) % 256 := by
  rw [UInt8.toNat_ofNat']; omega
theorem val_u8 {a b : Int} (h : a = b) : Value.int .u8 a = Value.int .u8 b := by rw [h]

theorem own_new (w : World) (l : List UInt8) (n : Nat) (hn : l.length = n) (hm : n ≤ maxLen) : BOwn (w.alloc (.cells (l.map bval).toArray 5)) w.heap.size (some ⟨w.heap.size, 0, none⟩) n n l := by
  subst hn
  exact ⟨by simp, .inr ⟨w.heap.size, _, rfl, Nat.le_refl _, heap_alloc_new w _, Nat.le_refl _, hm, by simp, by simp [List.take_of_length_le]⟩⟩

set_option maxRecDepth 100000 in
set_option maxHeartbeats 400000 in
theorem big32_any (x : Nat) (hx : x < 4294967296) (w : World) : Calls Try.prog 24 #[.int .u32 x] w fun e w' => e = .returned (.slice (some ⟨w.heap.size, 0, none⟩) 4 4) ∧ w' = w.alloc (.cells ((bigL 4 x).map bval).toArray 5) := by
  have hmk : ∀ w, (Instr.makeSlice 24 (.int .i64 4) (.int .i64 4)).run Try.prog w = .ok (.slice (some ⟨w.heap.size, 0, none⟩) 4 4) (w.alloc (.cells #[.int .u8 0, .int .u8 0, .int .u8 0, .int .u8 0] 5)) := fun _ => by kernel_rfl
  go_enter Try.func24, Try.ntmps24
  go_wp2_with (go_at_call 49; refine (width32_any _).mono ?_; rintro e w' ⟨rfl, rfl⟩)
  go_rounds 5
  go_ret
  refine ⟨rfl, ?_⟩
  refine congrArg (fun c : List Value => w.alloc (.cells c.toArray 5)) ?_
  simp only [bigL, List.nil_append, List.cons_append, List.map_cons, List.map_nil, bval, u8i]
  repeat (first | (refine congr (congrArg List.cons (val_u8 (by omega))) ?_) | rfl)

set_option maxRecDepth 100000 in
set_option maxHeartbeats 400000 in
theorem big64_any (x : Nat) (hx : x < 18446744073709551616) (w : World) : Calls Try.prog 33 #[.int .u64 x] w fun e w' => e = .returned (.slice (some ⟨w.heap.size, 0, none⟩) 8 8) ∧ w' = w.alloc (.cells ((bigL 8 x).map bval).toArray 5) := by
  have hmk : ∀ w, (Instr.makeSlice 24 (.int .i64 8) (.int .i64 8)).run Try.prog w = .ok (.slice (some ⟨w.heap.size, 0, none⟩) 8 8) (w.alloc (.cells #[.int .u8 0, .int .u8 0, .int .u8 0, .int .u8 0, .int .u8 0, .int .u8 0, .int .u8 0, .int .u8 0] 5)) := fun _ => by kernel_rfl
  go_enter Try.func33, Try.ntmps33
  go_wp2_with (go_at_call 59; refine (width64_any _).mono ?_; rintro e w' ⟨rfl, rfl⟩)
  go_rounds 9
  go_ret
  refine ⟨rfl, ?_⟩
  refine congrArg (fun c : List Value => w.alloc (.cells c.toArray 5)) ?_
  simp only [bigL, List.nil_append, List.cons_append, List.map_cons, List.map_nil, bval, u8i]
  repeat (first | (refine congr (congrArg List.cons (val_u8 (by omega))) ?_) | rfl)

end Go.Proofs.Ytkdmebcfedehiaa
/- octet.Small at each instance. -/
namespace Go.Proofs.Ytkdmebcfedehiaa
open Go.RowKit

/-- the number of which these are the bytes -/
def smallL (l : List UInt8) : Nat := l.foldl (fun x b => x * 256 + b.toNat) 0
theorem smallL_snoc (l : List UInt8) (b : UInt8) : smallL (l ++ [b]) = smallL l * 256 + b.toNat := by simp [smallL]
theorem smallL_lt : ∀ (n : Nat) (l : List UInt8), l.length = n → smallL l < 256 ^ n := by
  intro n
  induction n with
  | zero => intro l hl; simp [List.eq_nil_of_length_eq_zero hl, smallL]
  | succ n ih =>
    intro l hl
    obtain ⟨m, b, rfl⟩ : ∃ m b, l = m ++ [b] := ⟨l.dropLast, l.getLast (by intro h; simp [h] at hl), (List.dropLast_concat_getLast _).symm⟩
    rw [smallL_snoc]
    have := ih m (by simpa using hl)
    have := b.toNat_lt
    rw [Nat.pow_succ]
    omega
theorem smallL_take {l : List UInt8} {k : Nat} (h : k < l.length) : smallL (l.take (k + 1)) = smallL (l.take k) * 256 + (l[k]).toNat := by
  rw [List.take_succ_eq_append_getElem h, smallL_snoc]
theorem smallL_le {l : List UInt8} {k : Nat} (h : k ≤ l.length) (h7 : k ≤ 7) : smallL (l.take k) ≤ 72057594037927935 := by
  have h1 := smallL_lt k (l.take k) (by simp; omega)
  have h2 : 256 ^ k ≤ 256 ^ 7 := Nat.pow_le_pow_right (by omega) h7
  omega

theorem or_byte (x c : Nat) (hx : x ≤ 72057594037927935) (hc : c < 256) : bits .or .u64 ((x : Int) * 256) (c : Int) = ((x * 256 + c : Nat) : Int) := by
  have e1 : ((x : Int) * 256) = ((x * 256 : Nat) : Int) := by simp
  have e2 : x * 256 + c = x * 256 ||| c := by
    have := Nat.shiftLeft_add_eq_or_of_lt (i := 8) (b := c) (by omega) x
    rwa [Nat.shiftLeft_eq] at this
  rw [e1, bits_or_u64_nat _ _ (by omega) (by omega), e2]

set_option maxRecDepth 100000 in
set_option maxHeartbeats 400000 in
theorem small8_any (a : Option Addr) (c n : Nat) (l : List UInt8) (w : World) (ha : BLies w a l) (hn : l.length = n) (hm : n ≤ maxLen) :
    Calls Try.prog 76 #[.slice a n c] w fun e w' => e = .returned (if n < 1 then .tuple #[.int .u8 0, .int .i64 10] else if 1 < n then .tuple #[.int .u8 0, .int .i64 11] else .tuple #[.int .u8 (smallL l), .int .i64 0]) ∧ w = w' := by
  unfold maxLen at hm
  by_cases h1 : n < 1
  · have e : ∀ x y : Value, (if n < 1 then x else y) = x := fun x y => by rw [if_pos h1]
    rw [e]
    clear e
    go_enter Try.func76, Try.ntmps76
    go_wp2_with (go_at_call 75; refine (width8_any _).mono ?_; rintro e w' ⟨rfl, rfl⟩)
    go_ret2
    exact ⟨rfl, rfl⟩
  by_cases h2 : 1 < n
  · have e : ∀ x y z : Value, (if n < 1 then x else if 1 < n then y else z) = y := fun x y z => by rw [if_neg h1, if_pos h2]
    rw [e]
    clear e
    go_enter Try.func76, Try.ntmps76
    go_wp2_with (go_at_call 75; refine (width8_any _).mono ?_; rintro e w' ⟨rfl, rfl⟩)
    go_ret2
    exact ⟨rfl, rfl⟩
  have e : ∀ x y z : Value, (if n < 1 then x else if 1 < n then y else z) = z := fun x y z => by rw [if_neg h1, if_neg h2]
  rw [e]
  clear e
  obtain rfl : n = 1 := by omega
  clear h1 h2
  have HA : Hid (BLies w a l) := ha
  have HN := Lib.hid hn
  have hm0 : smallL l < 256 := by have := smallL_lt _ l hn; simpa using this
  have HM := Lib.hid hm0
  clear hm0
  clear ha hn hm
  go_enter Try.func76, Try.ntmps76
  go_wp2_with (go_at_call 75; refine (width8_any _).mono ?_; rintro e w' ⟨rfl, rfl⟩)
  go_loop [5, 21] (fun x i => ∃ k : Nat, k ≤ 1 ∧ i = .int .i64 k ∧ x = .int .u64 (smallL (l.take k))) (fun _ i => 1 - (intOf i).toNat)
  case atStart => exact ⟨0, by omega, rfl, rfl⟩
  case round =>
    obtain ⟨k, hk, rfl, rfl⟩ := hrel
    by_cases hlt : k < 1
    · obtain ⟨b, off, rfl, hc⟩ := HA.out k (by rw [HN.out]; exact hlt)
      have hle := smallL_le (l := l) (k := k) (by rw [HN.out]; omega) (by omega)
      have hb := (l[k]'(by rw [HN.out]; exact hlt)).toNat_lt
      go_wp2
      go_round
      case rel => exact ⟨k + 1, by omega, by go_num, by rw [or_byte _ _ hle hb, smallL_take (by rw [HN.out]; exact hlt)]⟩
      case measure => simp [intOf]; omega
    · obtain rfl : k = 1 := by omega
      have hle := HM.out
      have e0 : l.take 1 = l := List.take_of_length_le (by rw [HN.out]; omega)
      rw [e0]
      clear e0
      go_wp2
      go_ret2
      exact ⟨rfl, rfl⟩

set_option maxRecDepth 100000 in
set_option maxHeartbeats 400000 in
theorem small32_any (a : Option Addr) (c n : Nat) (l : List UInt8) (w : World) (ha : BLies w a l) (hn : l.length = n) (hm : n ≤ maxLen) :
    Calls Try.prog 27 #[.slice a n c] w fun e w' => e = .returned (if n < 4 then .tuple #[.int .u32 0, .int .i64 10] else if 4 < n then .tuple #[.int .u32 0, .int .i64 11] else .tuple #[.int .u32 (smallL l), .int .i64 0]) ∧ w = w' := by
  unfold maxLen at hm
  by_cases h1 : n < 4
  · have e : ∀ x y : Value, (if n < 4 then x else y) = x := fun x y => by rw [if_pos h1]
    rw [e]
    clear e
    go_enter Try.func27, Try.ntmps27
    go_wp2_with (go_at_call 49; refine (width32_any _).mono ?_; rintro e w' ⟨rfl, rfl⟩)
    go_ret2
    exact ⟨rfl, rfl⟩
  by_cases h2 : 4 < n
  · have e : ∀ x y z : Value, (if n < 4 then x else if 4 < n then y else z) = y := fun x y z => by rw [if_neg h1, if_pos h2]
    rw [e]
    clear e
    go_enter Try.func27, Try.ntmps27
    go_wp2_with (go_at_call 49; refine (width32_any _).mono ?_; rintro e w' ⟨rfl, rfl⟩)
    go_ret2
    exact ⟨rfl, rfl⟩
  have e : ∀ x y z : Value, (if n < 4 then x else if 4 < n then y else z) = z := fun x y z => by rw [if_neg h1, if_neg h2]
  rw [e]
  clear e
  obtain rfl : n = 4 := by omega
  clear h1 h2
  have HA : Hid (BLies w a l) := ha
  have HN := Lib.hid hn
  have hm0 : smallL l < 4294967296 := by have := smallL_lt _ l hn; simpa using this
  have HM := Lib.hid hm0
  clear hm0
  clear ha hn hm
  go_enter Try.func27, Try.ntmps27
  go_wp2_with (go_at_call 49; refine (width32_any _).mono ?_; rintro e w' ⟨rfl, rfl⟩)
  go_loop [5, 21] (fun x i => ∃ k : Nat, k ≤ 4 ∧ i = .int .i64 k ∧ x = .int .u64 (smallL (l.take k))) (fun _ i => 4 - (intOf i).toNat)
  case atStart => exact ⟨0, by omega, rfl, rfl⟩
  case round =>
    obtain ⟨k, hk, rfl, rfl⟩ := hrel
    by_cases hlt : k < 4
    · obtain ⟨b, off, rfl, hc⟩ := HA.out k (by rw [HN.out]; exact hlt)
      have hle := smallL_le (l := l) (k := k) (by rw [HN.out]; omega) (by omega)
      have hb := (l[k]'(by rw [HN.out]; exact hlt)).toNat_lt
      go_wp2
      go_round
      case rel => exact ⟨k + 1, by omega, by go_num, by rw [or_byte _ _ hle hb, smallL_take (by rw [HN.out]; exact hlt)]⟩
      case measure => simp [intOf]; omega
    · obtain rfl : k = 4 := by omega
      have hle := HM.out
      have e0 : l.take 4 = l := List.take_of_length_le (by rw [HN.out]; omega)
      rw [e0]
      clear e0
      go_wp2
      go_ret2
      exact ⟨rfl, rfl⟩

set_option maxRecDepth 100000 in
set_option maxHeartbeats 400000 in
theorem small64_any (a : Option Addr) (c n : Nat) (l : List UInt8) (w : World) (ha : BLies w a l) (hn : l.length = n) (hm : n ≤ maxLen) :
    Calls Try.prog 77 #[.slice a n c] w fun e w' => e = .returned (if n < 8 then .tuple #[.int .u64 0, .int .i64 10] else if 8 < n then .tuple #[.int .u64 0, .int .i64 11] else .tuple #[.int .u64 (smallL l), .int .i64 0]) ∧ w = w' := by
  unfold maxLen at hm
  by_cases h1 : n < 8
  · have e : ∀ x y : Value, (if n < 8 then x else y) = x := fun x y => by rw [if_pos h1]
    rw [e]
    clear e
    go_enter Try.func77, Try.ntmps77
    go_wp2_with (go_at_call 59; refine (width64_any _).mono ?_; rintro e w' ⟨rfl, rfl⟩)
    go_ret2
    exact ⟨rfl, rfl⟩
  by_cases h2 : 8 < n
  · have e : ∀ x y z : Value, (if n < 8 then x else if 8 < n then y else z) = y := fun x y z => by rw [if_neg h1, if_pos h2]
    rw [e]
    clear e
    go_enter Try.func77, Try.ntmps77
    go_wp2_with (go_at_call 59; refine (width64_any _).mono ?_; rintro e w' ⟨rfl, rfl⟩)
    go_ret2
    exact ⟨rfl, rfl⟩
  have e : ∀ x y z : Value, (if n < 8 then x else if 8 < n then y else z) = z := fun x y z => by rw [if_neg h1, if_neg h2]
  rw [e]
  clear e
  obtain rfl : n = 8 := by omega
  clear h1 h2
  have HA : Hid (BLies w a l) := ha
  have HN := Lib.hid hn
  have hm0 : smallL l < 18446744073709551616 := by have := smallL_lt _ l hn; simpa using this
  have HM := Lib.hid hm0
  clear hm0
  clear ha hn hm
  go_enter Try.func77, Try.ntmps77
  go_wp2_with (go_at_call 59; refine (width64_any _).mono ?_; rintro e w' ⟨rfl, rfl⟩)
  go_loop [5, 21] (fun x i => ∃ k : Nat, k ≤ 8 ∧ i = .int .i64 k ∧ x = .int .u64 (smallL (l.take k))) (fun _ i => 8 - (intOf i).toNat)
  case atStart => exact ⟨0, by omega, rfl, rfl⟩
  case round =>
    obtain ⟨k, hk, rfl, rfl⟩ := hrel
    by_cases hlt : k < 8
    · obtain ⟨b, off, rfl, hc⟩ := HA.out k (by rw [HN.out]; exact hlt)
      have hle := smallL_le (l := l) (k := k) (by rw [HN.out]; omega) (by omega)
      have hb := (l[k]'(by rw [HN.out]; exact hlt)).toNat_lt
      go_wp2
      go_round
      case rel => exact ⟨k + 1, by omega, by go_num, by rw [or_byte _ _ hle hb, smallL_take (by rw [HN.out]; exact hlt)]⟩
      case measure => simp [intOf]; omega
    · obtain rfl : k = 8 := by omega
      have hle := HM.out
      have e0 : l.take 8 = l := List.take_of_length_le (by rw [HN.out]; omega)
      rw [e0]
      clear e0
      go_wp2
      go_ret2
      exact ⟨rfl, rfl⟩

end Go.Proofs.Ytkdmebcfedehiaa
/- The reader: what comes, to the byte; its numbers of eight bytes. -/
namespace Go.Proofs.Ytkdmebcfedehiaa
open Go.RowKit

/-- what is taken, and how the reader is left -/
def Det (f : Bool) (rem : List UInt8) (x : Int) (ok : Bool) (p : List UInt8) (f' : Bool) (rem' : List UInt8) : Prop :=
  (ok = true ∧ f = false ∧ 0 ≤ x ∧ x ≤ rem.length ∧ p = rem.take x.toNat ∧ f' = false ∧ rem' = rem.drop x.toNat) ∨ (ok = false ∧ (f = true ∨ x < 0 ∨ (rem.length : Int) < x) ∧ p = [] ∧ f' = true ∧ rem' = rem)
def TookP2 (w : World) (g : Nat) (f : Bool) (rem : List UInt8) (la : Option Addr) (x : Int) (e : Ending) (w' : World) : Prop :=
  ∃ a n c ok p f' rem' la' lm' lc', e = .returned (.tuple #[.slice a n c, .bool ok]) ∧ Det f rem x ok p f' rem' ∧ Took w w' g f rem la a n p f' rem' la' lm' lc'

set_option maxRecDepth 100000 in
set_option maxHeartbeats 4000000 in
theorem take2_n (g : Nat) (f : Bool) (rem : List UInt8) (la : Option Addr) (lm lc : Nat) (x : Int) (w : World) (h : Rdr w g f rem la lm lc) :
    Calls Try.prog 56 #[.pointer (some ⟨g, 0, none⟩), .int .i64 x] w fun e w' => TookP2 w g f rem la x e w' := by
  have c0 := Row.cell h.row 0
  have c1 := Row.cell h.row 1
  have c2 := Row.cell h.row 2
  have f0 := Row.frozen h.row 0
  have f2 := Row.frozen h.row 2
  simp at c0 c1 c2
  have H := Lib.hid h
  have hcap := h.cap
  have hbig := h.big
  clear h
  cases f with
  | true =>
    go_enter Try.func56, Try.ntmps56
    go_wp2_with fail
    go_ret2
    exact ⟨none, 0, 0, false, [], true, rem, la, lm, lc, rfl, .inr ⟨rfl, .inl rfl, rfl, rfl, rfl⟩, BLies.nil _ _, rfl, H.out, fun h => (by cases h), by simp, World.grownBy.refl _ _, fun _ b off e => ⟨off, e⟩⟩
  | false =>
    by_cases hx : x < 0
    · have hd : decide (x < 0) = true := by simpa using hx
      go_enter Try.func56, Try.ntmps56
      go_wp2_with fail
      go_ret2
      refine ⟨none, 0, 0, false, [], true, rem, la, lm, lc, rfl, .inr ⟨rfl, .inr (.inl hx), rfl, rfl, rfl⟩, BLies.nil _ _, rfl, ⟨?_, H.out.set _ _, H.out.len, H.out.cap, H.out.big, H.out.apart⟩, fun h => (by cases h), by simp, grownBy_setCell _ _ _ _, fun _ b off e => ⟨off, e⟩⟩
      exact Row.setc H.out.row 2 (.bool true)
    · obtain ⟨n, rfl⟩ : ∃ n : Nat, x = (n : Int) := ⟨x.toNat, by omega⟩
      have hd : decide ((n : Int) < 0) = false := by simp
      by_cases hn : lm < n
      · have hd2 : decide ((lm : Int) < (n : Int)) = true := by simp; omega
        have hd3 : decide (lm < n) = true := by simp; omega
        go_enter Try.func56, Try.ntmps56
        go_wp2_with fail
        go_ret2
        refine ⟨none, 0, 0, false, [], true, rem, la, lm, lc, rfl, .inr ⟨rfl, .inr (.inr (by have := H.out.len; omega)), rfl, rfl, rfl⟩, BLies.nil _ _, rfl, ⟨?_, H.out.set _ _, H.out.len, H.out.cap, H.out.big, H.out.apart⟩, fun h => (by cases h), by simp, grownBy_setCell _ _ _ _, fun _ b off e => ⟨off, e⟩⟩
        exact Row.setc H.out.row 2 (.bool true)
      · have hd2 : decide ((lm : Int) < (n : Int)) = false := by simp; omega
        have hd3 : decide (lm < n) = false := by simp; omega
        have hnc : n ≤ lc := by omega
        have hnl : n ≤ lm := by omega
        rcases Nat.eq_zero_or_pos n with rfl | hpos
        · have hrow : Row (w.setCell ⟨g, 0, none⟩ (.slice la lm lc)) g 96 #[.slice la lm lc, .bool true, .bool false] := Row.setc H.out.row 0 _
          have hadd0 : ∀ a : Addr, a.add 0 = a := fun a => by simp [Addr.add]
          have hm0 : la.map (fun a => a.add 0) = la := by cases la <;> simp [hadd0]
          have HROW := Lib.hid hrow
          clear hrow
          by_cases hc0 : lc = 0
          · subst hc0
            obtain rfl : lm = 0 := by omega
            go_enter Try.func56, Try.ntmps56
            go_wp2_with fail
            go_ret2
            exact ⟨la, 0, 0, true, [], false, rem, la, 0, 0, rfl, .inl ⟨rfl, rfl, by simp, by simp, by simp, rfl, by simp⟩, ⟨fun k hk => absurd hk (by simp), rfl, ⟨HROW.out, H.out.set _ _, H.out.len, H.out.cap, H.out.big, H.out.apart⟩, fun _ => ⟨rfl, rfl⟩, by simp, grownBy_setCell _ _ _ _, fun _ b off e => ⟨off, e⟩⟩⟩
          · go_enter Try.func56, Try.ntmps56
            go_wp2_with fail
            go_ret2
            exact ⟨la, 0, 0, true, [], false, rem, la, lm, lc, rfl, .inl ⟨rfl, rfl, by simp, by simp, by simp, rfl, by simp⟩, ⟨fun k hk => absurd hk (by simp), rfl, ⟨HROW.out, H.out.set _ _, H.out.len, H.out.cap, H.out.big, H.out.apart⟩, fun _ => ⟨rfl, rfl⟩, by simp, grownBy_setCell _ _ _ _, fun _ b off e => ⟨off, e⟩⟩⟩
        · obtain ⟨b, off, rfl⟩ := H.out.lies.addr (by have := H.out.len; omega)
          have hap := H.out.apart (by omega) b off rfl
          have hlen := H.out.len
          have htl : (rem.take n).length = n := by rw [List.length_take]; omega
          have hdl : (rem.drop n).length = lm - n := by rw [List.length_drop, hlen]
          have hadd : (⟨b, off, none⟩ : Addr).add n = ⟨b, off + n, none⟩ := by unfold Addr.add; split <;> simp_all
          have HTL := Lib.hid htl
          have HDL := Lib.hid hdl
          have HLEN := Lib.hid hlen
          by_cases hcn : lc = n
          · subst hcn
            obtain rfl : lm = lc := by omega
            have hsub : lm - lm = 0 := Nat.sub_self _
            clear htl hdl hlen hadd
            go_enter Try.func56, Try.ntmps56
            go_wp2_with fail
            go_ret2
            have hbs := H.out.set 0 (.slice (some ⟨b, off, none⟩) 0 0)
            refine ⟨some ⟨b, off, none⟩, lm, lm, true, rem.take lm, false, rem.drop lm, some ⟨b, off, none⟩, 0, 0, rfl, .inl ⟨rfl, rfl, by omega, by have := HLEN.out; omega, rfl, rfl, rfl⟩, ⟨hbs.take lm, HTL.out, ⟨Row.setc H.out.row 0 _, fun k hk => absurd hk (by rw [HDL.out]; omega), by rw [HDL.out]; omega, Nat.le_refl _, by omega, fun h => absurd h (by omega)⟩, fun _ => ⟨rfl, (List.take_append_drop _ _).symm⟩, by rw [HTL.out, HDL.out, HLEN.out]; omega, grownBy_setCell _ _ _ _, fun h => absurd h (by omega)⟩⟩
          · have hsubl : (lm : Int) - (n : Int) = ((lm - n : Nat) : Int) := by omega
            clear htl hdl hlen
            go_enter Try.func56, Try.ntmps56
            go_wp2_with fail
            go_ret2
            have hbs := H.out.set 0 (.slice (some ⟨b, off + n, none⟩) (lm - n) (lc - n))
            refine ⟨some ⟨b, off, none⟩, n, n, true, rem.take n, false, rem.drop n, some ⟨b, off + n, none⟩, lm - n, lc - n, rfl, .inl ⟨rfl, rfl, by omega, by have := HLEN.out; omega, rfl, rfl, rfl⟩, ⟨hbs.take n, HTL.out, ⟨Row.setc H.out.row 0 _, drop_lies hbs n, HDL.out, by omega, by omega, fun _ b' off' e => by injection e with e; injection e with e; omega⟩, fun _ => ⟨rfl, (List.take_append_drop _ _).symm⟩, by rw [HTL.out, HDL.out, HLEN.out]; omega, grownBy_setCell _ _ _ _, fun _ b' off' e => by injection e with e; injection e with e1 e2; subst e1; exact ⟨off, rfl⟩⟩⟩


/-- what Bytes does -/
def BytesP2 (w : World) (g : Nat) (f : Bool) (rem : List UInt8) (la : Option Addr) (x : Int) (e : Ending) (w' : World) : Prop :=
  ∃ a n c ok p f' rem' la' lm' lc', e = .returned (.slice a n c) ∧ Det f rem x ok p f' rem' ∧ BOwn w' w.heap.size a n c p ∧ Rdr w' g f' rem' la' lm' lc' ∧ w.grownBy w' (some g) ∧
    (0 < lm' → ∀ b off, la' = some ⟨b, off, none⟩ → ∃ o, la = some ⟨b, o, none⟩)
/-- what Long does -/
def LongP (w : World) (g : Nat) (f : Bool) (rem : List UInt8) (la : Option Addr) (e : Ending) (w' : World) : Prop :=
  ∃ ok p f' rem' la' lm' lc', e = .returned (.int .u64 (if ok = true then smallL p else 0 : Nat)) ∧ Det f rem 8 ok p f' rem' ∧ Rdr w' g f' rem' la' lm' lc' ∧ w.grownBy w' (some g) ∧
    (0 < lm' → ∀ b off, la' = some ⟨b, off, none⟩ → ∃ o, la = some ⟨b, o, none⟩)
set_option maxRecDepth 100000 in
set_option maxHeartbeats 1000000 in
theorem number64_n (g : Nat) (f : Bool) (rem : List UInt8) (la : Option Addr) (lm lc : Nat) (w : World) (h : Rdr w g f rem la lm lc) :
    Calls Try.prog 74 #[.pointer (some ⟨g, 0, none⟩)] w fun e w' => LongP w g f rem la e w' := by
  have HT := Lib.hid (take2_n g f rem la lm lc 8 w h)
  clear h
  go_enter Try.func74, Try.ntmps74
  go_upto_region 2 with (first
    | (go_at_call 59; refine (width64_any _).mono ?_; rintro e w' ⟨rfl, rfl⟩)
    | (go_at_call 56; refine HT.out.mono ?_; rintro e w1 ⟨a, n, c, ok, p, f', rem', la', lm', lc', rfl, hd, ht⟩; have HD := Lib.hid hd; have HK := Lib.hid ht; clear hd ht))
  cases ok with
  | false =>
    go_wp2_with fail
    go_ret
    exact ⟨false, p, f', rem', la', lm', lc', rfl, HD.out, HK.out.rdr, HK.out.grown, HK.out.src⟩
  | true =>
    have hn : n = 8 := by
      have h1 := HK.out.len
      rcases HD.out with ⟨_, _, _, h2, h3, _⟩ | ⟨h, _⟩
      · rw [h3, List.length_take] at h1
        have : (8 : Int).toNat = 8 := rfl
        omega
      · cases h
    subst hn
    have HS := Lib.hid (small64_any a c 8 p w1 HK.out.lies HK.out.len (by unfold maxLen; omega))
    go_wp2_with fail
    refine HS.out.mono ?_
    rintro e w2 ⟨rfl, rfl⟩
    rw [if_neg (by omega), if_neg (by omega)]
    go_wp2_with fail
    go_ret
    exact ⟨true, p, f', rem', la', lm', lc', rfl, HD.out, HK.out.rdr, HK.out.grown, HK.out.src⟩
set_option maxRecDepth 100000 in
set_option maxHeartbeats 1000000 in
theorem long_n (g : Nat) (f : Bool) (rem : List UInt8) (la : Option Addr) (lm lc : Nat) (w : World) (h : Rdr w g f rem la lm lc) :
    Calls Try.prog 69 #[.pointer (some ⟨g, 0, none⟩)] w fun e w' => LongP w g f rem la e w' := by
  have HT := Lib.hid (number64_n g f rem la lm lc w h)
  clear h
  go_enter Try.func69, Try.ntmps69
  go_wp2_with fail
  refine HT.out.mono ?_
  rintro e w1 ⟨ok, p, f', rem', la', lm', lc', rfl, h1, h2, h3, h4⟩
  have H1 := Lib.hid h1
  have H2 := Lib.hid h2
  have H3 := Lib.hid h3
  have H4 := Lib.hid h4
  clear h1 h2 h3 h4
  generalize hv : (if ok = true then smallL p else 0) = v
  have HV := Lib.hid hv
  clear hv
  go_wp2_with fail
  go_ret
  exact ⟨ok, p, f', rem', la', lm', lc', congrArg (fun z : Nat => Ending.returned (.int .u64 (z : Int))) HV.out.symm, H1.out, H2.out, H3.out, H4.out⟩
end Go.Proofs.Ytkdmebcfedehiaa
/- The reader's Byte, Half and Word, to the byte. -/
namespace Go.Proofs.Ytkdmebcfedehiaa
open Go.RowKit

def ByteP (w : World) (g : Nat) (f : Bool) (rem : List UInt8) (la : Option Addr) (e : Ending) (w' : World) : Prop :=
  ∃ ok p f' rem' la' lm' lc', e = .returned (.int .u8 (if ok = true then smallL p else 0 : Nat)) ∧ Det f rem 1 ok p f' rem' ∧ Rdr w' g f' rem' la' lm' lc' ∧ w.grownBy w' (some g) ∧
    (0 < lm' → ∀ b off, la' = some ⟨b, off, none⟩ → ∃ o, la = some ⟨b, o, none⟩)
set_option maxRecDepth 100000 in
set_option maxHeartbeats 1000000 in
theorem number8_n (g : Nat) (f : Bool) (rem : List UInt8) (la : Option Addr) (lm lc : Nat) (w : World) (h : Rdr w g f rem la lm lc) :
    Calls Try.prog 73 #[.pointer (some ⟨g, 0, none⟩)] w fun e w' => ByteP w g f rem la e w' := by
  have HT := Lib.hid (take2_n g f rem la lm lc 1 w h)
  clear h
  go_enter Try.func73, Try.ntmps73
  go_upto_region 2 with (first
    | (go_at_call 75; refine (width8_any _).mono ?_; rintro e w' ⟨rfl, rfl⟩)
    | (go_at_call 56; refine HT.out.mono ?_; rintro e w1 ⟨a, n, c, ok, p, f', rem', la', lm', lc', rfl, hd, ht⟩; have HD := Lib.hid hd; have HK := Lib.hid ht; clear hd ht))
  cases ok with
  | false =>
    go_wp2_with fail
    go_ret
    exact ⟨false, p, f', rem', la', lm', lc', rfl, HD.out, HK.out.rdr, HK.out.grown, HK.out.src⟩
  | true =>
    have hn : n = 1 := by
      have h1 := HK.out.len
      rcases HD.out with ⟨_, _, _, h2, h3, _⟩ | ⟨h, _⟩
      · rw [h3, List.length_take] at h1
        have : (1 : Int).toNat = 1 := rfl
        omega
      · cases h
    subst hn
    have HS := Lib.hid (small8_any a c 1 p w1 HK.out.lies HK.out.len (by unfold maxLen; omega))
    go_wp2_with fail
    refine HS.out.mono ?_
    rintro e w2 ⟨rfl, rfl⟩
    rw [if_neg (by omega), if_neg (by omega)]
    go_wp2_with fail
    go_ret
    exact ⟨true, p, f', rem', la', lm', lc', rfl, HD.out, HK.out.rdr, HK.out.grown, HK.out.src⟩
set_option maxRecDepth 100000 in
set_option maxHeartbeats 1000000 in
theorem byte_n (g : Nat) (f : Bool) (rem : List UInt8) (la : Option Addr) (lm lc : Nat) (w : World) (h : Rdr w g f rem la lm lc) :
    Calls Try.prog 68 #[.pointer (some ⟨g, 0, none⟩)] w fun e w' => ByteP w g f rem la e w' := by
  have HT := Lib.hid (number8_n g f rem la lm lc w h)
  clear h
  go_enter Try.func68, Try.ntmps68
  go_wp2_with fail
  refine HT.out.mono ?_
  rintro e w1 ⟨ok, p, f', rem', la', lm', lc', rfl, h1, h2, h3, h4⟩
  have H1 := Lib.hid h1
  have H2 := Lib.hid h2
  have H3 := Lib.hid h3
  have H4 := Lib.hid h4
  clear h1 h2 h3 h4
  generalize hv : (if ok = true then smallL p else 0) = v
  have HV := Lib.hid hv
  clear hv
  go_wp2_with fail
  go_ret
  exact ⟨ok, p, f', rem', la', lm', lc', congrArg (fun z : Nat => Ending.returned (.int .u8 (z : Int))) HV.out.symm, H1.out, H2.out, H3.out, H4.out⟩
def WordP (w : World) (g : Nat) (f : Bool) (rem : List UInt8) (la : Option Addr) (e : Ending) (w' : World) : Prop :=
  ∃ ok p f' rem' la' lm' lc', e = .returned (.int .u32 (if ok = true then smallL p else 0 : Nat)) ∧ Det f rem 4 ok p f' rem' ∧ Rdr w' g f' rem' la' lm' lc' ∧ w.grownBy w' (some g) ∧
    (0 < lm' → ∀ b off, la' = some ⟨b, off, none⟩ → ∃ o, la = some ⟨b, o, none⟩)
set_option maxRecDepth 100000 in
set_option maxHeartbeats 1000000 in
theorem number32_n (g : Nat) (f : Bool) (rem : List UInt8) (la : Option Addr) (lm lc : Nat) (w : World) (h : Rdr w g f rem la lm lc) :
    Calls Try.prog 72 #[.pointer (some ⟨g, 0, none⟩)] w fun e w' => WordP w g f rem la e w' := by
  have HT := Lib.hid (take2_n g f rem la lm lc 4 w h)
  clear h
  go_enter Try.func72, Try.ntmps72
  go_upto_region 2 with (first
    | (go_at_call 49; refine (width32_any _).mono ?_; rintro e w' ⟨rfl, rfl⟩)
    | (go_at_call 56; refine HT.out.mono ?_; rintro e w1 ⟨a, n, c, ok, p, f', rem', la', lm', lc', rfl, hd, ht⟩; have HD := Lib.hid hd; have HK := Lib.hid ht; clear hd ht))
  cases ok with
  | false =>
    go_wp2_with fail
    go_ret
    exact ⟨false, p, f', rem', la', lm', lc', rfl, HD.out, HK.out.rdr, HK.out.grown, HK.out.src⟩
  | true =>
    have hn : n = 4 := by
      have h1 := HK.out.len
      rcases HD.out with ⟨_, _, _, h2, h3, _⟩ | ⟨h, _⟩
      · rw [h3, List.length_take] at h1
        have : (4 : Int).toNat = 4 := rfl
        omega
      · cases h
    subst hn
    have HS := Lib.hid (small32_any a c 4 p w1 HK.out.lies HK.out.len (by unfold maxLen; omega))
    go_wp2_with fail
    refine HS.out.mono ?_
    rintro e w2 ⟨rfl, rfl⟩
    rw [if_neg (by omega), if_neg (by omega)]
    go_wp2_with fail
    go_ret
    exact ⟨true, p, f', rem', la', lm', lc', rfl, HD.out, HK.out.rdr, HK.out.grown, HK.out.src⟩
set_option maxRecDepth 100000 in
set_option maxHeartbeats 1000000 in
theorem word_n (g : Nat) (f : Bool) (rem : List UInt8) (la : Option Addr) (lm lc : Nat) (w : World) (h : Rdr w g f rem la lm lc) :
    Calls Try.prog 67 #[.pointer (some ⟨g, 0, none⟩)] w fun e w' => WordP w g f rem la e w' := by
  have HT := Lib.hid (number32_n g f rem la lm lc w h)
  clear h
  go_enter Try.func67, Try.ntmps67
  go_wp2_with fail
  refine HT.out.mono ?_
  rintro e w1 ⟨ok, p, f', rem', la', lm', lc', rfl, h1, h2, h3, h4⟩
  have H1 := Lib.hid h1
  have H2 := Lib.hid h2
  have H3 := Lib.hid h3
  have H4 := Lib.hid h4
  clear h1 h2 h3 h4
  generalize hv : (if ok = true then smallL p else 0) = v
  have HV := Lib.hid hv
  clear hv
  go_wp2_with fail
  go_ret
  exact ⟨ok, p, f', rem', la', lm', lc', congrArg (fun z : Nat => Ending.returned (.int .u32 (z : Int))) HV.out.symm, H1.out, H2.out, H3.out, H4.out⟩
/-- a reader while another is used -/
theorem Rdr.other {w w' : World} {g g2 : Nat} {f : Bool} {rem : List UInt8} {la : Option Addr} {lm lc : Nat} (h : Rdr w g f rem la lm lc) (hg : w.grownBy w' (some g2)) (hne : g ≠ g2) (hb : 0 < lm → ∀ b off, la = some ⟨b, off, none⟩ → b ≠ g2) : Rdr w' g f rem la lm lc :=
  ⟨h.row.ch (Ch.ofSome (S := fun x => x = g2) hg rfl) hne, by
    by_cases h0 : 0 < lm
    · exact BLies.ch h.lies (Ch.ofSome (S := fun x => x = g2) hg rfl) (fun b off e hh => hb h0 b off e hh)
    · have h3 := h.len
      intro i hi; omega, h.len, h.cap, h.big, h.apart⟩
end Go.Proofs.Ytkdmebcfedehiaa
/- A region that draws its order, all of whose operations come to one value each while a condition on the world stands: whatever the order, one end. -/
namespace Go.Proofs.Ytkdmebcfedehiaa
open Go.RowKit

section
variable {P : Program} {ops : Array Oper} {Q : Exit → Act → World → Prop} {md : Region.Mode} {S : World → Prop}

/-- what an operation comes to: the value v, in a world of which S holds -/
def OutS (P : Program) (S : World → Prop) (v : Value) : Result Next → Prop
  | .ok (.value u) w' => u = v ∧ S w'
  | .ok .skip w' => v = undef ∧ S w'
  | .ok (.enter f args) w' => Calls P f args w' fun e w'' => e = .returned v ∧ S w''
  | _ => False

def YS (P : Program) (ops : Array Oper) (S : World → Prop) (o : Oper) (v : Value) (a : Act) : Prop :=
  (Region.wanted o (yielded ops a.tmps) = true ∧ ∀ w, S w → OutS P S v ((execOp a.eval o).run P w)) ∨
  (Region.wanted o (yielded ops a.tmps) = false ∧ v = undef)

theorem YS.of {o : Oper} {v : Value} {a a' : Act} (hy : YS P ops S o v a) (he : execOp a'.eval o = execOp a.eval o)
    (hw : Region.wanted o (yielded ops a'.tmps) = Region.wanted o (yielded ops a.tmps)) : YS P ops S o v a' := by
  unfold YS at *; rw [he, hw]; exact hy

theorem YS.op {i : Nat} {o : Oper} {v : Value} {a : Act} (hi : ops[i]? = some o) (hy : YS P ops S o v a) {K : Act → World → Prop} {w : World} (hS : S w)
    (h : ∀ w', S w' → K (a.put o.dst v) w') : wpOp P ops Q i K a w := by
  unfold Go.wpOp
  simp only [hi]
  rcases hy with ⟨hw, hv⟩ | ⟨hw, rfl⟩
  · simp only [hw, if_true]
    refine .inl ?_
    have h1 := hv w hS
    unfold Oper.wp
    generalize (execOp a.eval o).run P w = r at h1 ⊢
    cases r with
    | ok n w' =>
      cases n with
      | value u => obtain ⟨rfl, hs⟩ := h1; exact h _ hs
      | skip => obtain ⟨rfl, hs⟩ := h1; exact h _ hs
      | enter f args =>
        simp only [OutS] at h1
        simp only [Oper.upon]
        refine Calls.mono h1 fun e w'' he => ?_
        obtain ⟨rfl, hs⟩ := he
        exact h _ hs
      | _ => exact h1.elim
    | halt x w' => exact h1.elim
  · simp only [hw, Bool.false_eq_true, if_false]; exact h _ hS

/-- whatever order is picked, from whatever world of which S holds -/
def wpS (P : Program) (md : Region.Mode) (ops : Array Oper) (Q : Exit → Act → World → Prop) (S : World → Prop) : Nat → Array Bool → Act → Prop
  | 0, listed, a => Region.ready md ops listed = [] ∧ ∀ w, S w → Q .normal a w
  | n + 1, listed, a => (Region.ready md ops listed = [] → ∀ w, S w → Q .normal a w) ∧
    ∀ i ∈ Region.ready md ops listed, ∀ w, S w → wpOp P ops Q i (fun a' w' => S w' ∧ wpS P md ops Q S n (listed.setIfInBounds i true) a') a w

/-- an operation that looks at no memory, or reads what S tells of -/
theorem YS.val {o : Oper} {v : Value} {a : Act} (hw : Region.wanted o (yielded ops a.tmps) = true) (h : ∀ w, S w → (execOp a.eval o).run P w = .ok (.value v) w) : YS P ops S o v a :=
  .inl ⟨hw, fun w hS => by rw [h w hS]; exact ⟨rfl, hS⟩⟩
/-- a call by its contract -/
theorem YS.call {o : Oper} {v : Value} {a : Act} {f : FuncId} {args : Array Value} (hw : Region.wanted o (yielded ops a.tmps) = true) (h : ∀ w, (execOp a.eval o).run P w = .ok (.enter f args) w)
    (hc : ∀ w, S w → Calls P f args w fun e w' => e = .returned v ∧ S w') : YS P ops S o v a :=
  .inl ⟨hw, fun w hS => by rw [h w]; exact hc w hS⟩
/-- the load of a whole row -/
theorem YS.row {o : Oper} {a : Act} (hw : Region.wanted o (yielded ops a.tmps) = true) (ty : TypeId) (x : Operand) (ho : o.op = .load ty x)
    (b : Nat) (hx : a.eval x = .pointer (some ⟨b, 0, none⟩)) (cs : List Value) (d : TypeDesc) (hS : ∀ w, S w → w.rangeAt b 0 cs)
    (hu : P.underlying ty = some d) (hd : d.isRow = true) (hi : (P.info? ty).map (·.size) = some cs.length) : YS P ops S o (.agg cs.toArray) a := by
  rcases yieldsIf_load_mid (P := P) (ops := ops) hw ty x ho b 0 hx cs d hS hu hd hi with ⟨h1, h2⟩ | ⟨h1, h2⟩
  · exact YS.val h1 h2
  · rw [hw] at h1; cases h1
/-- a call by a contract that says that memory has grown, where S bears growth -/
theorem YS.grow {o : Oper} {v : Value} {a : Act} {f : FuncId} {args : Array Value} (hw : Region.wanted o (yielded ops a.tmps) = true) (h : ∀ w, (execOp a.eval o).run P w = .ok (.enter f args) w)
    (hK : ∀ w w', S w → w.grownBy w' none → S w') (hc : ∀ w, Calls P f args w fun e w' => e = .returned v ∧ w.grownBy w' none) : YS P ops S o v a :=
  YS.call hw h fun w hS => (hc w).mono fun _ w' h => ⟨h.1, hK w w' hS h.2⟩
/-- a call that leaves the world alone -/
theorem YS.same {o : Oper} {v : Value} {a : Act} {f : FuncId} {args : Array Value} (hw : Region.wanted o (yielded ops a.tmps) = true) (h : ∀ w, (execOp a.eval o).run P w = .ok (.enter f args) w)
    (hc : ∀ w, Calls P f args w fun e w' => e = .returned v ∧ w = w') : YS P ops S o v a :=
  YS.call hw h fun w hS => (hc w).mono fun _ _ h => ⟨h.1, h.2 ▸ hS⟩
end

end Go.Proofs.Ytkdmebcfedehiaa
/- A region that draws its order and ends in one operation that waits for all the others (a store): whatever the order, one end. -/
namespace Go.Proofs.Ytkdmebcfedehiaa
open Go.RowKit

section
variable {P : Program} {ops : Array Oper} {Q : Exit → Act → World → Prop} {md : Region.Mode} {S : World → Prop} {L : Nat}

/-- whatever order is picked, from whatever world of which S holds; number L is the last -/
def wpT (P : Program) (md : Region.Mode) (ops : Array Oper) (Q : Exit → Act → World → Prop) (S : World → Prop) (L : Nat) : Nat → Array Bool → Act → Prop
  | 0, _, _ => False
  | n + 1, listed, a => Region.ready md ops listed ≠ [] ∧
    ∀ i ∈ Region.ready md ops listed, ∀ w, S w → wpOp P ops Q i (fun a' w' => if i = L then Region.ready md ops (listed.setIfInBounds i true) = [] ∧ Q .normal a' w' else S w' ∧ wpT P md ops Q S L n (listed.setIfInBounds i true) a') a w

/-- what has come up has what it waited for -/
def Closed (md : Region.Mode) (ops : Array Oper) (listed : Array Bool) : Prop := ∀ (j : Nat) (o : Oper), ops[j]? = some o → listed.getD j false = true → ∀ e ∈ o.after, Region.binds md e = true → listed.getD e.on false = true
def closedB (md : Region.Mode) (ops : Array Oper) (listed : Array Bool) : Bool := (List.range ops.size).all fun j => match ops[j]? with
  | some o => !listed.getD j false || o.after.all fun e => !Region.binds md e || listed.getD e.on false
  | none => true
theorem closed_of {listed : Array Bool} (h : closedB md ops listed = true) : Closed md ops listed := by
  intro j o ho hj e he hb
  have h1 := List.all_eq_true.1 h j (List.mem_range.2 (Array.getElem?_eq_some_iff.1 ho).1)
  simp only [ho, hj, Bool.not_true, Bool.false_or] at h1
  have h2 := Array.all_eq_true_iff_forall_mem.1 h1 e he
  simpa [hb] using h2
theorem Closed.set {listed : Array Bool} (h : Closed md ops listed) {j : Nat} (hj : j ∈ Region.ready md ops listed) : Closed md ops (listed.setIfInBounds j true) := by
  intro k o ho hk e he hb
  by_cases hkj : j = k
  · subst hkj
    obtain ⟨_, o', ho', hall⟩ := mem_ready.1 hj
    rw [ho] at ho'
    injection ho' with ho'
    subst ho'
    exact getD_set_true (hall e he hb)
  · rw [getD_set_ne false hkj] at hk
    exact getD_set_true (h k o ho hk e he hb)
/-- does i come ahead of L: directly, or by one between -/
def aheadB (md : Region.Mode) (ops : Array Oper) (oL : Oper) (i : Nat) : Bool := oL.after.any (fun e => Region.binds md e && e.on == i) || oL.after.any (fun e => Region.binds md e && (match ops[e.on]? with
  | some o => o.after.any (fun f => Region.binds md f && f.on == i)
  | none => false))
theorem ahead_listed {listed : Array Bool} {oL : Oper} {i : Nat} (hc : Closed md ops listed) (h : aheadB md ops oL i = true) (hall : ∀ e ∈ oL.after, Region.binds md e = true → listed.getD e.on false = true) : listed.getD i false = true := by
  unfold aheadB at h
  rw [Bool.or_eq_true] at h
  rcases h with h | h
  · obtain ⟨e, he, hb⟩ := Array.any_eq_true'.1 h
    simp only [Bool.and_eq_true, beq_iff_eq] at hb
    rw [← hb.2]
    exact hall e he hb.1
  · obtain ⟨e, he, hb⟩ := Array.any_eq_true'.1 h
    rw [Bool.and_eq_true] at hb
    have h1 := hall e he hb.1
    have h2 := hb.2
    cases ho : ops[e.on]? with
    | none => rw [ho] at h2; cases h2
    | some o =>
      rw [ho] at h2
      obtain ⟨f, hf, hfb⟩ := Array.any_eq_true'.1 h2
      simp only [Bool.and_eq_true, beq_iff_eq] at hfb
      rw [← hfb.2]
      exact hc e.on o ho h1 f hf hfb.1
end

end Go.Proofs.Ytkdmebcfedehiaa
/- A region that draws its order, makes a variable of its own somewhere among calls that make memory, and ends in one store: whatever the order, one end. The condition on the world may grow stronger on the way. -/
namespace Go.Proofs.Ytkdmebcfedehiaa
open Go.RowKit

/-- a condition that growth keeps -/
def Clo (S : World → Prop) : Prop := ∀ w w', S w → w.grownBy w' none → S w'
section
variable {P : Program} {ops : Array Oper} {Q : Exit → Act → World → Prop} {md : Region.Mode} {L : Nat}

def OutG (P : Program) (v : Value) (w : World) : Result Next → Prop
  | .ok (.value u) w' => u = v ∧ w.grownBy w' none
  | .ok .skip w' => v = undef ∧ w.grownBy w' none
  | .ok (.enter f args) w' => Calls P f args w' fun e w'' => e = .returned v ∧ w.grownBy w'' none
  | _ => False
def YG (P : Program) (ops : Array Oper) (S : World → Prop) (o : Oper) (v : Value) (a : Act) : Prop :=
  (Region.wanted o (yielded ops a.tmps) = true ∧ ∀ w, S w → OutG P v w ((execOp a.eval o).run P w)) ∨
  (Region.wanted o (yielded ops a.tmps) = false ∧ v = undef)
theorem YG.of {S : World → Prop} {o : Oper} {v : Value} {a a' : Act} (hy : YG P ops S o v a) (he : execOp a'.eval o = execOp a.eval o)
    (hw : Region.wanted o (yielded ops a'.tmps) = Region.wanted o (yielded ops a.tmps)) : YG P ops S o v a' := by
  unfold YG at *; rw [he, hw]; exact hy
theorem YG.sub {S S' : World → Prop} {o : Oper} {v : Value} {a : Act} (hy : YG P ops S o v a) (h : ∀ w, S' w → S w) : YG P ops S' o v a :=
  hy.imp (fun ⟨h1, h2⟩ => ⟨h1, fun w hw => h2 w (h w hw)⟩) id
theorem YG.op {S : World → Prop} {i : Nat} {o : Oper} {v : Value} {a : Act} (hi : ops[i]? = some o) (hy : YG P ops S o v a) {K : Act → World → Prop} {w : World} (hS : S w)
    (h : ∀ w', w.grownBy w' none → K (a.put o.dst v) w') : wpOp P ops Q i K a w := by
  unfold Go.wpOp
  simp only [hi]
  rcases hy with ⟨hw, hv⟩ | ⟨hw, rfl⟩
  · simp only [hw, if_true]
    refine .inl ?_
    have h1 := hv w hS
    unfold Oper.wp
    generalize (execOp a.eval o).run P w = r at h1 ⊢
    cases r with
    | ok n w' =>
      cases n with
      | value u => obtain ⟨rfl, hs⟩ := h1; exact h _ hs
      | skip => obtain ⟨rfl, hs⟩ := h1; exact h _ hs
      | enter f args =>
        simp only [OutG] at h1
        simp only [Oper.upon]
        refine Calls.mono h1 fun e w'' he => ?_
        obtain ⟨rfl, hs⟩ := he
        exact h _ hs
      | _ => exact h1.elim
    | halt x w' => exact h1.elim
  · simp only [hw, Bool.false_eq_true, if_false]; exact h _ (World.grownBy.refl _ _)

def wpX (P : Program) (md : Region.Mode) (ops : Array Oper) (Q : Exit → Act → World → Prop) (L : Nat) : Nat → (World → Prop) → Array Bool → Act → Prop
  | 0, _, _, _ => False
  | n + 1, S, listed, a => Region.ready md ops listed ≠ [] ∧
    ∀ i ∈ Region.ready md ops listed, ∀ w, S w → wpOp P ops Q i (fun a' w' => if i = L then Region.ready md ops (listed.setIfInBounds i true) = [] ∧ Q .normal a' w' else
      ∃ S' : World → Prop, S' w' ∧ (∀ w, S' w → S w) ∧ Clo S' ∧ wpX P md ops Q L n S' (listed.setIfInBounds i true) a') a w

theorem wpX_any : ∀ (n : Nat) (S : World → Prop) (listed : Array Bool) (a : Act) (w : World), wpX P md ops Q L n S listed a → S w → wpAny P md ops Q n listed a w
  | 0, _, _, _, _, h, _ => h.elim
  | n + 1, S, listed, a, w, h, hS => by
    refine ⟨fun h0 => absurd h0 h.1, fun i hi => wpOp_mono (fun a' w' h' => ?_) (h.2 i hi w hS)⟩
    by_cases hL : i = L
    · rw [if_pos hL] at h'
      exact wpAny_done h'.1 h'.2 n
    · rw [if_neg hL] at h'
      obtain ⟨S', hs, _, _, hw⟩ := h'
      exact wpX_any n S' _ a' w' hw hs

theorem wpX_put {S : World → Prop} {j : Nat} {oi oj : Oper} {v : Value} (hj : ops[j]? = some oj) (hap : oi.apart ops oj = true) (hsi : ∀ cs b, oi.op ≠ .select cs b) (hsj : ∀ cs b, oj.op ≠ .select cs b)
    (hQ : ∀ c a w, Q (.panic c) (a.put oi.dst v) w → Q (.panic c) a w) {K : Act → World → Prop} {a : Act} {w : World}
    (hy : YG P ops S oi v a) (h : wpOp P ops Q j K (a.put oi.dst v) w) : wpOp P ops Q j (fun a' w' => YG P ops S oi v a' ∧ K (a'.put oi.dst v) w') a w := by
  obtain ⟨h1, h2, h3⟩ := Oper.apart_spec hap
  have keep : ∀ (a : Act), YG P ops S oi v a → ∀ u, YG P ops S oi v (a.put oj.dst u) := fun a hy u => hy.of (execOp_put oi hsi a oj.dst u h3) (wanted_put oi a oj.dst u h3)
  unfold Go.wpOp at h ⊢
  simp only [hj] at h ⊢
  rw [wanted_put oj a oi.dst v h1] at h
  by_cases hw : Region.wanted oj (yielded ops a.tmps) = true
  · rw [if_pos hw] at h ⊢
    rcases h with h | ⟨hasks, hlets⟩
    · refine .inl ?_
      unfold Oper.wp at h ⊢
      rw [execOp_put oj hsj a oi.dst v h1] at h
      generalize (execOp a.eval oj).run P w = r at h ⊢
      cases r with
      | ok n w' =>
        cases n <;> simp only [Oper.upon] at h ⊢
        case value u => exact ⟨keep a hy u, by rw [← Act.put_comm a v u h2]; exact h⟩
        case skip => exact ⟨keep a hy _, by rw [← Act.put_comm a v undef h2]; exact h⟩
        case defer d =>
          refine ⟨keep { a with defers := d :: a.defers } (hy.of rfl rfl) _, ?_⟩
          rw [← Act.put_comm _ v undef h2, ← Act.put_defers]
          exact h
        case enter f args =>
          refine Calls.mono h fun e w'' he => ?_
          cases e with
          | returned u => exact ⟨keep a hy u, by rw [← Act.put_comm a v u h2]; exact he⟩
          | panicked c => exact hQ _ _ _ he
          | outgrown => exact he
        case row row args => exact Rows.mono h fun u w'' he => ⟨keep a hy u, by rw [← Act.put_comm a v u h2]; exact he⟩
      | halt x w' =>
        cases x <;> simp only [Oper.upon] at h ⊢
        case panic u => exact hQ _ _ _ h
    · exact .inr ⟨by unfold Oper.asks at hasks ⊢; rw [execOp_put oj hsj a oi.dst v h1] at hasks; exact hasks, hlets⟩
  · rw [if_neg hw] at h ⊢
    exact ⟨keep a hy _, by rw [← Act.put_comm a v undef h2]; exact h⟩

theorem wpX_first {i : Nat} {oi oL : Oper} {v : Value} (hi : ops[i]? = some oi) (hoL : ops[L]? = some oL) (hiL : i ≠ L) (hLi : aheadB md ops oL i = true) (hsel : ∀ (j : Nat) (o : Oper) cs b, ops[j]? = some o → o.op ≠ .select cs b)
    (hQ : ∀ c a w, Q (.panic c) (a.put oi.dst v) w → Q (.panic c) a w) : ∀ (n : Nat) (S : World → Prop) (listed : Array Bool) (a : Act), Clo S → Closed md ops listed →
      (∀ j oj, ops[j]? = some oj → j ≠ i → listed.getD j true = false → (∀ e ∈ oj.after, Region.binds md e = true → e.on ≠ i) → oi.apart ops oj = true) →
      i ∈ Region.ready md ops listed → YG P ops S oi v a → wpX P md ops Q L n S (listed.setIfInBounds i true) (a.put oi.dst v) → wpX P md ops Q L (n + 1) S listed a := by
  intro n
  induction n with
  | zero => intro S listed a _ _ _ _ _ H; exact H.elim
  | succ n ih =>
    intro S listed a hclo hcl hfree hr hy H
    refine ⟨fun h => (by rw [h] at hr; cases hr), fun j hj w hS => ?_⟩
    obtain ⟨hjun, oj, hoj, hall⟩ := mem_ready.1 hj
    have hnot : ∀ e ∈ oj.after, Region.binds md e = true → e.on ≠ i := by
      intro e he hb heq
      have h1 := hall e he hb
      have h0 := (mem_ready.1 hr).1
      rw [heq] at h1
      rcases Nat.lt_or_ge i listed.size with h' | h'
      · simp [h'] at h0 h1; rw [h0] at h1; cases h1
      · simp [Array.getElem?_eq_none h'] at h1
    by_cases hji : j = i
    · subst hji
      refine hy.op hi hS fun w' hg => ?_
      rw [if_neg hiL]
      exact ⟨S, hclo w w' hS hg, fun _ h => h, hclo, H⟩
    · have hjL : j ≠ L := by
        rintro rfl
        rw [hoL] at hoj
        injection hoj with hoj
        subst hoj
        have h1 := ahead_listed hcl hLi hall
        have h0 := (mem_ready.1 hr).1
        rcases Nat.lt_or_ge i listed.size with h' | h'
        · simp [h'] at h0 h1; rw [h0] at h1; cases h1
        · simp [Array.getElem?_eq_none h'] at h1
      have h1 := H.2 j (ready_mono hj hji) w hS
      have h2 := wpX_put hoj (hfree j oj hoj hji hjun hnot) (fun cs b => hsel i oi cs b hi) (fun cs b => hsel j oj cs b hoj) hQ hy h1
      refine wpOp_mono (fun a' w' h3 => ?_) h2
      rw [if_neg hjL] at h3 ⊢
      obtain ⟨hya, S', hs', hsub, hclo', hwx⟩ := h3
      refine ⟨S', hs', hsub, hclo', ih S' (listed.setIfInBounds j true) a' hclo' (hcl.set hj) (fun k ok hk hki hun hno => ?_) (ready_mono hr (Ne.symm hji)) (hya.sub hsub) ?_⟩
      · refine hfree k ok hk hki ?_ hno
        by_cases hjk : j = k
        · subst hjk; exact hjun
        · rw [getD_set_ne true hjk] at hun; exact hun
      · rw [Array.setIfInBounds_comm _ _ hji]
        exact hwx

/-- number i first -/
theorem wpX_take (i : Nat) {S : World → Prop} {oi oL : Oper} {v : Value} {n : Nat} {listed : Array Bool} {a : Act} (hclo : Clo S) (hi : ops[i]? = some oi) (hoL : ops[L]? = some oL) (hiL : (i == L) = false) (hLi : aheadB md ops oL i = true) (hcl : closedB md ops listed = true)
    (hs : Region.noSelect ops = true) (hf : Region.free md ops listed i = true) (hr : (Region.ready md ops listed).contains i = true)
    (hQ : ∀ c a w, Q (.panic c) (a.put oi.dst v) w → Q (.panic c) a w) (hy : YG P ops S oi v a)
    (h : wpX P md ops Q L n S (listed.setIfInBounds i true) (a.put oi.dst v)) : wpX P md ops Q L (n + 1) S listed a :=
  wpX_first hi hoL (by simpa using hiL) hLi (Region.noSelect_spec hs) hQ n S listed a hclo (closed_of hcl) (Region.free_spec hi hf) (by simpa using hr) hy h
/-- the one that may come up alone is carried out; the condition may grow stronger -/
theorem wpX_step (k : Nat) {S : World → Prop} {o : Oper} {n : Nat} {listed : Array Bool} {a : Act} (ho : ops[k]? = some o) (hkL : (k == L) = false) (hr : Region.ready md ops listed = [k]) (hw : Region.wanted o (yielded ops a.tmps) = true)
    (h : ∀ w, S w → ∀ K : Act → World → Prop, (∀ (S' : World → Prop) a' w', S' w' → (∀ w, S' w → S w) → Clo S' → wpX P md ops Q L n S' (listed.setIfInBounds k true) a' → K a' w') → o.wp P a w K Q) : wpX P md ops Q L (n + 1) S listed a := by
  refine ⟨by rw [hr]; simp, fun i hi w hS => ?_⟩
  rw [hr] at hi
  obtain rfl : i = k := by simpa using hi
  have hne : i ≠ L := by simpa using hkL
  unfold wpOp
  simp only [ho, hw, if_true]
  refine .inl (h w hS _ fun S' a' w' h1 h2 h3 h4 => ?_)
  rw [if_neg hne]
  exact ⟨S', h1, h2, h3, h4⟩
/-- the last one, carried out -/
theorem wpX_last {S : World → Prop} {oL : Oper} {n : Nat} {listed : Array Bool} {a : Act} (hoL : ops[L]? = some oL) (hr : Region.ready md ops listed = [L]) (hr2 : Region.ready md ops (listed.setIfInBounds L true) = []) (hw : Region.wanted oL (yielded ops a.tmps) = true)
    (h : ∀ w, S w → ∀ K : Act → World → Prop, (∀ a' w', Q .normal a' w' → K a' w') → oL.wp P a w K Q) : wpX P md ops Q L (n + 1) S listed a := by
  refine ⟨by rw [hr]; simp, fun i hi w hS => ?_⟩
  rw [hr] at hi
  obtain rfl : i = L := by simpa using hi
  unfold wpOp
  simp only [hoL, hw, if_true]
  refine .inl (h w hS _ fun a' w' hq => ?_)
  exact ⟨hr2, hq⟩
theorem wp_regionX (S : World → Prop) (L : Nat) {id : Nat} {a : Act} {w : World} (hm : P.follows .mixedOrders = true) (hS : S w.drew)
    (h : wpX P .any ops Q L ops.size S (Array.replicate ops.size false) a) : (Code.region id ops true).wp P Q a w :=
  wp_region_any hm (wpX_any _ _ _ _ _ h hS)

theorem YG.val {S : World → Prop} {o : Oper} {v : Value} {a : Act} (hw : Region.wanted o (yielded ops a.tmps) = true) (h : ∀ w, S w → (execOp a.eval o).run P w = .ok (.value v) w) : YG P ops S o v a :=
  .inl ⟨hw, fun w hS => by rw [h w hS]; exact ⟨rfl, World.grownBy.refl _ _⟩⟩
theorem YG.call {S : World → Prop} {o : Oper} {v : Value} {a : Act} {f : FuncId} {args : Array Value} (hw : Region.wanted o (yielded ops a.tmps) = true) (h : ∀ w, (execOp a.eval o).run P w = .ok (.enter f args) w)
    (hc : ∀ w, S w → Calls P f args w fun e w' => e = .returned v ∧ w.grownBy w' none) : YG P ops S o v a :=
  .inl ⟨hw, fun w hS => by rw [h w]; exact hc w hS⟩
theorem YG.row {S : World → Prop} {o : Oper} {a : Act} (hw : Region.wanted o (yielded ops a.tmps) = true) (ty : TypeId) (x : Operand) (ho : o.op = .load ty x)
    (b f : Nat) (hx : a.eval x = .pointer (some ⟨b, f, none⟩)) (cs : List Value) (d : TypeDesc) (hS : ∀ w, S w → w.rangeAt b f cs)
    (hu : P.underlying ty = some d) (hd : d.isRow = true) (hi : (P.info? ty).map (·.size) = some cs.length) : YG P ops S o (.agg cs.toArray) a := by
  rcases yieldsIf_load_mid (P := P) (ops := ops) hw ty x ho b f hx cs d hS hu hd hi with ⟨h1, h2⟩ | ⟨h1, h2⟩
  · exact YG.val h1 h2
  · rw [hw] at h1; cases h1
end

end Go.Proofs.Ytkdmebcfedehiaa
/- A region that draws its order and makes one call whose answer is told only by letters: helpers for XRegX; a list's beginning handed on. -/
namespace Go.Proofs.Ytkdmebcfedehiaa
open Go.RowKit

section
variable {P : Program}
theorem wp_call_op {o : Oper} {a : Act} {w w1 : World} {K : Act → World → Prop} {Q : Exit → Act → World → Prop} {f : FuncId} {args : Array Value} (h : (execOp a.eval o).run P w = .ok (.enter f args) w1)
    (hc : Calls P f args w1 fun e w' => ∃ v, e = .returned v ∧ K (a.put o.dst v) w') : o.wp P a w K Q := by
  unfold Oper.wp
  rw [h]
  simp only [Oper.upon]
  refine hc.mono ?_
  rintro e w' ⟨v, rfl, hk⟩
  exact hk
theorem wp_val_op {o : Oper} {a : Act} {w w1 : World} {K : Act → World → Prop} {Q : Exit → Act → World → Prop} {v : Value} (h : (execOp a.eval o).run P w = .ok (.value v) w1) (hk : K (a.put o.dst v) w1) : o.wp P a w K Q := by
  unfold Oper.wp
  rw [h, Oper.upon_value]
  exact hk
end

theorem clo_grown (w0 : World) : Clo (fun u => w0.grownBy u none) := fun _ _ h g => grownBy_trans h g

end Go.Proofs.Ytkdmebcfedehiaa
/- A list's middle handed on: b[lo:hi]. -/
namespace Go.Proofs.Ytkdmebcfedehiaa
open Go.RowKit

def midA (a : Option Addr) (f c : Nat) : Option Addr := if c = f then a else a.map (·.add f)
theorem run_mid (w : World) (a : Option Addr) (N c f h : Nat) (h1 : f ≤ h) (h2 : h ≤ c) :
    (Instr.slice 24 (.slice a N c) (some (.int .i64 (f : Int))) (some (.int .i64 (h : Int))) none).run Try.prog w = .ok (.slice (midA a f c) (h - f) (c - f)) w := by
  have hu : Try.prog.underlying 24 = some (.slice (Try.prog.elem 24)) := by kernel_rfl
  have hz : (sizeOf (Try.prog.elem 24)).run Try.prog w = .ok 1 w := by
    obtain ⟨i, hi, hz, hs, hb⟩ := elB.info
    have he : Try.prog.elem 24 = 5 := by kernel_rfl
    rw [he]
    simp [sizeOf, typeInfo, hi, hs]
  rw [run_slice_lh (P := Try.prog) w _ _ _ _ hu _ _ _ _ (by omega) (by omega) (by omega)]
  simp [hz, sliced, midA]
theorem run_mid_op (w : World) (ev : Operand → Value) {o : Oper} (x lo hi : Operand) (ho : o.op = .slice 24 x (some lo) (some hi) none) (a : Option Addr) (N c f h : Nat) (hx : ev x = .slice a N c) (hl : ev lo = .int .i64 (f : Int)) (hh : ev hi = .int .i64 (h : Int)) (h1 : f ≤ h) (h2 : h ≤ c) :
    (execOp ev o).run Try.prog w = .ok (.value (.slice (midA a f c) (h - f) (c - f))) w := by
  have hu : Try.prog.underlying 24 = some (.slice (Try.prog.elem 24)) := by kernel_rfl
  unfold execOp
  simp only [ho, Option.map_some, Option.map_none]
  simp only [Sem.run_bind, run_sliceAt_slice (P := Try.prog) w _ _ _ _ _ hu, hx, hl, hh]
  rw [run_mid w a N c f h h1 h2]
  rfl
theorem mid_lies {w : World} {a : Option Addr} {l : List UInt8} (ha : BLies w a l) (f r c : Nat) (h : f + r ≤ l.length) (hc : l.length ≤ c) : BLies w (midA a f c) ((l.drop f).take r) := by
  rcases Nat.eq_zero_or_pos r with h0 | h0
  · subst h0
    rw [List.take_zero]
    exact BLies.nil _ _
  · obtain ⟨b, o, rfl⟩ := BLies.addr ha (by omega)
    have hne : ¬ c = f := by omega
    have e : midA (some ⟨b, o, none⟩) f c = some ⟨b, o + f, none⟩ := by
      unfold midA
      rw [if_neg hne]
      show some ((⟨b, o, none⟩ : Addr).add f) = _
      congr 1
      unfold Addr.add
      split <;> simp_all
    rw [e]
    exact (drop_lies ha f).take r
theorem mid_len {l : List UInt8} {f r : Nat} (h : f + r ≤ l.length) : ((l.drop f).take r).length = r := by rw [List.length_take, List.length_drop]; omega
theorem wpList_valp {P : Program} {ops : Array Oper} {Q : Exit → Act → World → Prop} {o : Oper} {rest : List Oper} {a : Act} {w w1 : World} {v : Value} (hg : o.guard = none) (hr : (execOp a.eval o).run P w = .ok (.value v) w1) (h : wpList P ops Q rest (a.put o.dst v) w1) : wpList P ops Q (o :: rest) a w := by
  refine wpList_plain hg fun K hK => ?_
  unfold Oper.wp
  rw [hr, Oper.upon_value]
  exact hK _ _ h
end Go.Proofs.Ytkdmebcfedehiaa
/- octet's reader, by functions; lists of up to 2^47 bytes. Printed by gens/takea.py. -/
namespace Go.Proofs.Ytkdmebcfedehiaa
open Go.RowKit

set_option maxRecDepth 100000 in
set_option maxHeartbeats 400000 in
theorem cloneL_n (a : Option Addr) (c n : Nat) (l : List UInt8) (w : World) (ha : BLies w a l) (hl : l.length = n) (hn : n ≤ 140737488355328) :
    Calls Try.prog 28 #[.slice a n c] w fun e w' => ∃ a' c', e = .returned (.slice a' n c') ∧ BOwn w' w.heap.size a' n c' l ∧ w.grownBy w' none := by
  have qT : ∀ (w : World) (a : Option Addr) (n c n' c' : Nat), (binOp .eql 24 (.slice a n c) (.slice none n' c')).run Try.prog w = .ok (.bool a.isNone) w := fun w a n c n' c' => Lib.run_eql_slice_nil w _ _ a n c n' c' Try.underlying24
  by_cases h0 : n = 0
  · subst h0
    obtain rfl : l = [] := List.eq_nil_of_length_eq_zero hl
    clear ha hl
    cases a with
    | none =>
      go_enter Try.func28, Try.ntmps28
      go_wp2
      go_ret
      exact ⟨none, 0, rfl, Own.nil _ _ _ _ _, World.grownBy.refl _ _⟩
    | some ad =>
      go_enter Try.func28, Try.ntmps28
      go_wp2
      go_ret
      exact ⟨_, _, rfl, Own.nil _ _ _ _ _, World.grownBy_alloc _ _ _⟩
  · obtain ⟨b, off, rfl⟩ := ha.addr (by omega)
    have HA := Lib.hid ha
    have HL := Lib.hid hl
    have hsz := Nat.le_succ w.heap.size
    clear ha hl
    go_enter Try.func28, Try.ntmps28
    go_wp2_with (at_builtin; refine wpList_app elB rfl (.tmp 5) (.tmp 6) rfl rfl (Own.nil _ w.heap.size _ _ _) ⟨b, off, none⟩ n c (l.map bval) rfl (by rw [List.length_map, HL.out, Nat.mul_one]) (HA.out.grown (World.grownBy_alloc _ _ _)).news (bval_one l) (by unfold maxLen; omega) (by omega) (by simp) (by omega) ?_; intro g cap w1 hown1 hgr)
    go_ret
    simp only [Nat.zero_add, List.nil_append] at hown1
    exact ⟨_, _, by simp, hown1, hgr.grew.grown (Own.nil _ w.heap.size 5 1 _) (World.grownBy_alloc w _ none) (Nat.le_refl _)⟩

set_option maxRecDepth 100000 in
set_option maxHeartbeats 1000000 in
theorem newReaderL_n (a : Option Addr) (c n : Nat) (l : List UInt8) (w : World) (ha : BLies w a l) (hl : l.length = n) (hn : n ≤ 140737488355328) :
    Calls Try.prog 30 #[.slice a n c] w fun e w' => ∃ g la lc, e = .returned (.pointer (some ⟨g, 0, none⟩)) ∧ w.heap.size ≤ g ∧ Rdr w' g false l la n lc ∧ w.grownBy w' none ∧ (0 < n → ∀ b off, la = some ⟨b, off, none⟩ → w.heap.size ≤ b ∧ b < g) := by
  have HC := Lib.hid (cloneL_n a c n l w ha hl hn)
  have HL := Lib.hid hl
  clear ha hl
  go_enter Try.func30, Try.ntmps30
  go_wp2_with fail
  refine HC.out.mono ?_
  rintro e w1 ⟨a', c', rfl, ho, hg⟩
  have HO := Lib.hid ho
  have HG := Lib.hid hg
  clear ho hg
  go_wp2_with (refine wpList_boxed rfl rfl #[.slice a' n c', .bool true, .bool false] rfl ?_; intro w2 hs2 hg2 hr2; have HG2 := Lib.hid hg2; have HR2 := Lib.hid hr2; clear hs2 hg2 hr2)
  go_ret
  refine ⟨_, a', c', rfl, HG.out.size, ⟨HR2.out, (BOwn.lies HO.out).grown HG2.out, HL.out, HO.out.cap.1, HO.out.cap.2, fun h0 b off e => ?_⟩, grownBy_trans HG.out HG2.out, fun h0 b off e => ?_⟩
  all_goals
    obtain ⟨g, e', h1, h2⟩ := Own.block HO.out (by have := HO.out.cap.1; omega)
    rw [e'] at e
    injection e with e; injection e with e
    omega

set_option maxRecDepth 100000 in
set_option maxHeartbeats 1000000 in
theorem bytesL_n (g : Nat) (f : Bool) (rem : List UInt8) (la : Option Addr) (lm lc : Nat) (x : Int) (w : World) (h : Rdr w g f rem la lm lc) (hb : lm ≤ 140737488355000) :
    Calls Try.prog 31 #[.pointer (some ⟨g, 0, none⟩), .int .i64 x] w fun e w' => BytesP2 w g f rem la x e w' := by
  have HT := Lib.hid (take2_n g f rem la lm lc x w h)
  have HLN := Lib.hid h.len
  clear h
  go_enter Try.func31, Try.ntmps31
  go_wp2_with fail
  refine HT.out.mono ?_
  rintro e w1 ⟨a, n, c, ok, p, f', rem', la', lm', lc', rfl, hd, ht⟩
  have HD := Lib.hid hd
  have HK := Lib.hid ht
  have hs := ht.short
  have hl := ht.len
  have hln := HLN.out
  have hcl := cloneL_n a c n p w1 ht.lies ht.len (by omega)
  have HCL := Lib.hid hcl
  clear ht hs hl hln hcl hd
  go_wp2_with fail
  refine HCL.out.mono ?_
  rintro e w2 ⟨a2, c2, rfl, ho, hg⟩
  have HO := Lib.hid ho
  have HG := Lib.hid hg
  clear ho hg
  go_wp2_with fail
  go_ret
  exact ⟨a2, n, c2, ok, p, f', rem', la', lm', lc', rfl, HD.out, Own.mono HO.out HK.out.grown.size, HK.out.rdr.grown HG.out, grownBy_trans HK.out.grown (grownBy_some HG.out _), HK.out.src⟩

def okD (f : Bool) (rem : List UInt8) (x : Int) : Bool := !f && decide (0 ≤ x) && decide (x ≤ rem.length)
def pD (f : Bool) (rem : List UInt8) (x : Int) : List UInt8 := if okD f rem x = true then rem.take x.toNat else []
def fD (f : Bool) (rem : List UInt8) (x : Int) : Bool := !okD f rem x
def remD (f : Bool) (rem : List UInt8) (x : Int) : List UInt8 := if okD f rem x = true then rem.drop x.toNat else rem
def numD (f : Bool) (rem : List UInt8) (k : Nat) : Nat := if okD f rem k = true then smallL (pD f rem k) else 0
theorem Det.short {f : Bool} {rem : List UInt8} {k : Nat} {ok : Bool} {p : List UInt8} {f' : Bool} {rem' : List UInt8} (h : Det f rem (k : Int) ok p f' rem') : p.length = (if ok = true then k else 0) ∧ rem'.length ≤ rem.length := by
  rcases h with ⟨h0, _, _, h2, h3, _, h5⟩ | ⟨h0, _, h3, _, h5⟩
  · subst h0; subst h3; subst h5
    rw [if_pos rfl, List.length_take, List.length_drop]
    have : ((k : Int)).toNat = k := rfl
    omega
  · subst h0; subst h3; subst h5
    simp
theorem Rdr.ch {S : Nat → Prop} {w w' : World} {g : Nat} {f : Bool} {rem : List UInt8} {la : Option Addr} {lm lc : Nat} (h : Rdr w g f rem la lm lc) (hc : Ch S w w') (hne : ¬ S g) (hb : 0 < lm → ∀ b off, la = some ⟨b, off, none⟩ → ¬ S b) : Rdr w' g f rem la lm lc :=
  ⟨h.row.ch hc hne, by
    by_cases h0 : 0 < lm
    · exact BLies.ch h.lies hc (fun b off e => hb h0 b off e)
    · have h3 := h.len
      intro i hi; omega, h.len, h.cap, h.big, h.apart⟩
theorem det_eq {f : Bool} {rem : List UInt8} {x : Int} {ok : Bool} {p : List UInt8} {f' : Bool} {rem' : List UInt8} (h : Det f rem x ok p f' rem') : ok = okD f rem x ∧ p = pD f rem x ∧ f' = fD f rem x ∧ rem' = remD f rem x := by
  rcases h with ⟨h0, h1, h2, h3, h4, h5, h6⟩ | ⟨h0, h1, h2, h3, h4⟩
  · have e : okD f rem x = true := by simp [okD, h1, h2, h3]
    simp [pD, fD, remD, e, h0, h4, h5, h6]
  · have e : okD f rem x = false := by
      rcases h1 with h1 | h1 | h1
      · simp [okD, h1]
      · have : ¬ (0 ≤ x) := by omega
        simp [okD, this]
      · have : ¬ (x ≤ rem.length) := by omega
        simp [okD, this]
    simp [pD, fD, remD, e, h0, h2, h3, h4]
theorem remD_len (f : Bool) (rem : List UInt8) (x : Int) : (remD f rem x).length ≤ rem.length := by
  unfold remD
  split
  · rw [List.length_drop]; omega
  · exact Nat.le_refl _
/-- octet's reader at g, its bytes in the block b -/
def RA (w : World) (g b : Nat) (f : Bool) (rem : List UInt8) : Prop := ∃ la lm lc, Rdr w g f rem la lm lc ∧ (0 < lm → ∀ x off, la = some ⟨x, off, none⟩ → x = b) ∧ lm ≤ 140737488355000
theorem RA.ch {S : Nat → Prop} {w w' : World} {g b : Nat} {f : Bool} {rem : List UInt8} (h : RA w g b f rem) (hc : Ch S w w') (hg : ¬ S g) (hb : ¬ S b) : RA w' g b f rem := by
  obtain ⟨la, lm, lc, h1, h2, h3⟩ := h
  exact ⟨la, lm, lc, h1.ch hc hg (fun h0 x off e => by rw [h2 h0 x off e]; exact hb), h2, h3⟩
theorem RA.lt {w : World} {g b : Nat} {f : Bool} {rem : List UInt8} (h : RA w g b f rem) : g < w.heap.size := by
  obtain ⟨la, lm, lc, h1, _⟩ := h; exact h1.row.lt
section
variable {w : World} {g b : Nat} {f : Bool} {rem : List UInt8}
theorem srcB {la la' : Option Addr} {lm lm' : Nat} (h1 : 0 < lm → ∀ x off, la = some ⟨x, off, none⟩ → x = b) (h2 : 0 < lm' → ∀ b off, la' = some ⟨b, off, none⟩ → ∃ o, la = some ⟨b, o, none⟩) (hle : lm' ≤ lm) : 0 < lm' → ∀ x off, la' = some ⟨x, off, none⟩ → x = b := fun h0 x off e => by
  obtain ⟨o, e2⟩ := h2 h0 x off e
  exact h1 (by omega) x o e2
theorem byteA (h : RA w g b f rem) : Calls Try.prog 68 #[.pointer (some ⟨g, 0, none⟩)] w fun e w' => e = .returned (.int .u8 (numD f rem 1 : Nat)) ∧ RA w' g b (fD f rem 1) (remD f rem 1) ∧ w.grownBy w' (some g) := by
  obtain ⟨la, lm, lc, h1, h2, h3⟩ := h
  refine (byte_n g f rem la lm lc w h1).mono ?_
  rintro e w' ⟨ok, p, f', rem', la', lm', lc', rfl, hd, hr, hg, hs⟩
  have hlr := (Det.short (k := 1) hd).2
  obtain ⟨rfl, rfl, rfl, rfl⟩ := det_eq hd
  have h5 := h1.len
  have h6 := hr.len
  exact ⟨rfl, ⟨la', lm', lc', hr, srcB h2 hs (by omega), by omega⟩, hg⟩
theorem wordA (h : RA w g b f rem) : Calls Try.prog 67 #[.pointer (some ⟨g, 0, none⟩)] w fun e w' => e = .returned (.int .u32 (numD f rem 4 : Nat)) ∧ RA w' g b (fD f rem 4) (remD f rem 4) ∧ w.grownBy w' (some g) := by
  obtain ⟨la, lm, lc, h1, h2, h3⟩ := h
  refine (word_n g f rem la lm lc w h1).mono ?_
  rintro e w' ⟨ok, p, f', rem', la', lm', lc', rfl, hd, hr, hg, hs⟩
  have hlr := (Det.short (k := 4) hd).2
  obtain ⟨rfl, rfl, rfl, rfl⟩ := det_eq hd
  have h5 := h1.len
  have h6 := hr.len
  exact ⟨rfl, ⟨la', lm', lc', hr, srcB h2 hs (by omega), by omega⟩, hg⟩
theorem longA (h : RA w g b f rem) : Calls Try.prog 69 #[.pointer (some ⟨g, 0, none⟩)] w fun e w' => e = .returned (.int .u64 (numD f rem 8 : Nat)) ∧ RA w' g b (fD f rem 8) (remD f rem 8) ∧ w.grownBy w' (some g) := by
  obtain ⟨la, lm, lc, h1, h2, h3⟩ := h
  refine (long_n g f rem la lm lc w h1).mono ?_
  rintro e w' ⟨ok, p, f', rem', la', lm', lc', rfl, hd, hr, hg, hs⟩
  have hlr := (Det.short (k := 8) hd).2
  obtain ⟨rfl, rfl, rfl, rfl⟩ := det_eq hd
  have h5 := h1.len
  have h6 := hr.len
  exact ⟨rfl, ⟨la', lm', lc', hr, srcB h2 hs (by omega), by omega⟩, hg⟩
theorem bytesA (x : Int) (h : RA w g b f rem) : Calls Try.prog 31 #[.pointer (some ⟨g, 0, none⟩), .int .i64 x] w fun e w' => ∃ a n c, e = .returned (.slice a n c) ∧ BOwn w' w.heap.size a n c (pD f rem x) ∧ RA w' g b (fD f rem x) (remD f rem x) ∧ w.grownBy w' (some g) := by
  obtain ⟨la, lm, lc, h1, h2, h3⟩ := h
  refine (bytesL_n g f rem la lm lc x w h1 h3).mono ?_
  rintro e w' ⟨a, n, c, ok, p, f', rem', la', lm', lc', rfl, hd, ho, hr, hg, hs⟩
  obtain ⟨rfl, rfl, rfl, rfl⟩ := det_eq hd
  have hlr := remD_len f rem x
  have h5 := h1.len
  have h6 := hr.len
  exact ⟨a, n, c, rfl, ho, ⟨la', lm', lc', hr, srcB h2 hs (by omega), by omega⟩, hg⟩
end
end Go.Proofs.Ytkdmebcfedehiaa
/- Plain Lean: numbers there and back; frames there and back; the order of lists of bytes. -/
namespace Go.Proofs.Ytkdmebcfedehiaa
open Go.RowKit

theorem big_small : ∀ (k : Nat) (l : List UInt8), l.length = k → bigL k (smallL l) = l
  | 0, l, h => by rw [List.eq_nil_of_length_eq_zero h]; rfl
  | k + 1, l, h => by
    have hne : l ≠ [] := fun e => by rw [e] at h; cases h
    have hl := List.dropLast_concat_getLast hne
    have hlen : l.dropLast.length = k := by rw [List.length_dropLast]; omega
    have ih := big_small k _ hlen
    generalize l.dropLast = a at hl hlen ih
    generalize l.getLast hne = b at hl
    subst hl
    rw [smallL_snoc, bigL]
    have hb := b.toNat_lt
    have e1 : (smallL a * 256 + b.toNat) / 256 = smallL a := by omega
    rw [e1, ih]
    congr 2
    apply UInt8.toNat_inj.1
    rw [UInt8.toNat_ofNat']
    omega
/-- one list ahead of another, byte by byte -/
def lessL : List UInt8 → List UInt8 → Bool
  | _, [] => false
  | [], _ :: _ => true
  | x :: s, y :: t => if x = y then lessL s t else x.toNat < y.toNat
/-- the frames of a row of lists -/
def fr : List (List UInt8) → List UInt8
  | [] => []
  | p :: ps => bigL 8 p.length ++ (p ++ fr ps)
/-- the row of which these are the frames -/
def unf (l : List UInt8) : Option (List (List UInt8)) :=
  if h0 : l = [] then some []
  else if l.length < 8 then none
  else if l.length - 8 < smallL (l.take 8) then none
  else (unf ((l.drop 8).drop (smallL (l.take 8)))).map ((l.drop 8).take (smallL (l.take 8)) :: ·)
termination_by l.length
decreasing_by
  have := List.length_pos_iff.2 h0
  simp only [List.length_drop]
  omega
end Go.Proofs.Ytkdmebcfedehiaa
/- Plain Lean: replies and requests as bytes, and back: none of it speaks of the program. -/
namespace Go.Proofs.Ytkdmebcfedehiaa
open Go.RowKit

/-- a reply -/
structure Rp where
  kind : Nat
  nums : List Int
  bytes : List UInt8
def noRp : Rp := ⟨0, [], []⟩
/-- numbers of shares that rise -/
def incr : Int → List Int → Bool
  | _, [] => true
  | lo, n :: r => decide (lo < n) && (decide (n < 255) && incr n r)
def mayR (r : Rp) : Bool :=
  if r.kind ≠ 1 ∧ r.nums ≠ [] ∨ r.kind ≠ 5 ∧ r.bytes ≠ [] then false
  else if r.kind = 1 then incr (-1) r.nums
  else if r.kind = 5 then decide (1 ≤ r.bytes.length) && decide (r.bytes.length ≤ 131072)
  else decide (1 ≤ r.kind) && decide (r.kind ≤ 7)
def numB (n : Int) : UInt8 := UInt8.ofNat n.toNat
def encR (r : Rp) : List UInt8 :=
  UInt8.ofNat r.kind :: (if r.kind = 1 then UInt8.ofNat r.nums.length :: r.nums.map numB else if r.kind = 5 then bigL 4 r.bytes.length ++ r.bytes else [])
/-- may the byte at a place be a number of a share? -/
def okN (t : List UInt8) (i : Nat) : Bool := decide (t.getD i 0 ≠ 255) && (decide (i = 0) || decide ((t.getD (i - 1) 0).toNat < (t.getD i 0).toNat))
/-- the first place of a fault -/
def firstBad (t : List UInt8) : Nat := (List.range t.length).findIdx (fun i => !okN t i)
def byN (x : UInt8) : Int := (x.toNat : Int)
/-- the number of n bytes at a place -/
def getN (b : List UInt8) (p n : Nat) : Nat := smallL ((b.drop p).take n)
/-- the reply of bytes; else the place of the first fault -/
def decR (b : List UInt8) : Except Nat Rp :=
  if b = [] ∨ (b.getD 0 0).toNat < 1 ∨ 7 < (b.getD 0 0).toNat then .error 0
  else if (b.getD 0 0).toNat = 1 then
    if b.length < 2 then .error b.length
    else if firstBad ((b.drop 2).take (b.getD 1 0).toNat) < ((b.drop 2).take (b.getD 1 0).toNat).length then .error (2 + firstBad ((b.drop 2).take (b.getD 1 0).toNat))
    else if b.length ≠ 2 + (b.getD 1 0).toNat then .error (min b.length (2 + (b.getD 1 0).toNat))
    else .ok ⟨1, (b.drop 2).map byN, []⟩
  else if (b.getD 0 0).toNat = 5 then
    if b.length < 5 then .error b.length
    else if getN b 1 4 < 1 ∨ 131072 < getN b 1 4 then .error 1
    else if b.length ≠ 5 + getN b 1 4 then .error (min b.length (5 + getN b 1 4))
    else .ok ⟨5, [], b.drop 5⟩
  else if b.length ≠ 1 then .error 1
  else .ok ⟨(b.getD 0 0).toNat, [], []⟩

theorem firstBad_le (t : List UInt8) : firstBad t ≤ t.length := by
  unfold firstBad
  have := List.findIdx_le_length (p := fun i => !okN t i) (xs := List.range t.length)
  rwa [List.length_range] at this
theorem firstBad_at {t : List UInt8} {i : Nat} (hi : i < t.length) (h1 : ∀ j, j < i → okN t j = true) (h2 : okN t i = false) : firstBad t = i := by
  unfold firstBad
  rw [List.findIdx_eq (by rw [List.length_range]; exact hi)]
  simp only [List.getElem_range, h2, Bool.not_false, true_and]
  intro j hj
  rw [h1 j hj]; rfl
theorem firstBad_none {t : List UInt8} (h : ∀ j, j < t.length → okN t j = true) : firstBad t = t.length := by
  unfold firstBad
  rw [List.findIdx_eq_length_of_false, List.length_range]
  intro x hx
  rw [h x (List.mem_range.1 hx)]; rfl
theorem firstBad_ok {t : List UInt8} (h : firstBad t = t.length) : ∀ j, j < t.length → okN t j = true := by
  intro j hj
  have := List.not_of_lt_findIdx (p := fun i => !okN t i) (xs := List.range t.length) (i := j) (show j < firstBad t by omega)
  simpa using this

theorem incr_ok : ∀ (t : List UInt8) (lo : Int), incr lo (t.map byN) = true ↔ (∀ j, j < t.length → (t.getD j 0) ≠ 255 ∧ (j = 0 → lo < byN (t.getD 0 0)) ∧ (0 < j → (t.getD (j - 1) 0).toNat < (t.getD j 0).toNat))
  | [], lo => by simp [incr]
  | x :: r, lo => by
    have h255 : ¬ x = 255 ↔ byN x < 255 := by
      unfold byN
      have h1 : x = 255 ↔ x.toNat = 255 := by rw [← UInt8.toNat_inj]; rfl
      rw [h1]
      have := x.toNat_lt
      omega
    rw [List.map_cons, incr, Bool.and_eq_true, Bool.and_eq_true, decide_eq_true_eq, decide_eq_true_eq, incr_ok r]
    constructor
    · rintro ⟨h1, h2, h3⟩ j hj
      match j with
      | 0 => exact ⟨h255.2 h2, fun _ => h1, fun h => absurd h (by omega)⟩
      | j + 1 =>
        have hjr : j < r.length := by simpa using hj
        obtain ⟨k1, k2, k3⟩ := h3 j hjr
        refine ⟨by simpa using k1, fun h => absurd h (by omega), fun _ => ?_⟩
        match j, k2, k3 with
        | 0, k2, _ => have := k2 rfl; unfold byN at this; simp; simp at this; omega
        | j + 1, _, k3 => have := k3 (by omega); simpa using this
    · intro h
      have h0 := h 0 (by simp)
      refine ⟨h0.2.1 rfl, h255.1 h0.1, fun j hj => ?_⟩
      have hj1 := h (j + 1) (by simpa using hj)
      refine ⟨by simpa using hj1.1, fun hj0 => ?_, fun hj0 => ?_⟩
      · subst hj0
        have := hj1.2.2 (by omega)
        simp at this
        unfold byN
        simp
        omega
      · have := hj1.2.2 (by omega)
        obtain ⟨m, rfl⟩ : ∃ m, j = m + 1 := ⟨j - 1, by omega⟩
        simpa using this
theorem incr_good (t : List UInt8) : incr (-1) (t.map byN) = true ↔ firstBad t = t.length := by
  rw [incr_ok]
  constructor
  · intro h
    refine firstBad_none fun j hj => ?_
    obtain ⟨h1, _, h3⟩ := h j hj
    unfold okN
    rw [Bool.and_eq_true, Bool.or_eq_true, decide_eq_true_eq, decide_eq_true_eq, decide_eq_true_eq]
    exact ⟨h1, by rcases Nat.eq_zero_or_pos j with h | h; exact .inl h; exact .inr (h3 h)⟩
  · intro h j hj
    have := firstBad_ok h j hj
    unfold okN at this
    rw [Bool.and_eq_true, Bool.or_eq_true, decide_eq_true_eq, decide_eq_true_eq, decide_eq_true_eq] at this
    refine ⟨this.1, fun _ => by unfold byN; omega, fun h0 => ?_⟩
    rcases this.2 with h | h
    · omega
    · exact h
theorem incr_bound : ∀ (ns : List Int) (lo : Int), incr lo ns = true → ∀ n ∈ ns, lo < n ∧ n < 255
  | [], _, _, n, hn => by cases hn
  | x :: r, lo, h, n, hn => by
    rw [incr, Bool.and_eq_true, Bool.and_eq_true, decide_eq_true_eq, decide_eq_true_eq] at h
    rcases List.mem_cons.1 hn with rfl | hn
    · exact ⟨h.1, h.2.1⟩
    · have := incr_bound r x h.2.2 n hn
      omega
theorem incr_len : ∀ (ns : List Int) (lo : Int), incr lo ns = true → lo < 255 → (ns.length : Int) ≤ 254 - lo
  | [], lo, _, hlo => by simp; omega
  | x :: r, lo, h, hlo => by
    rw [incr, Bool.and_eq_true, Bool.and_eq_true, decide_eq_true_eq, decide_eq_true_eq] at h
    have := incr_len r x h.2.2 h.2.1
    simp only [List.length_cons]
    omega
theorem byN_numB {n : Int} (h : 0 ≤ n) (h2 : n < 256) : byN (numB n) = n := by
  unfold byN numB
  rw [UInt8.toNat_ofNat']
  omega
theorem numB_byN (x : UInt8) : numB (byN x) = x := by
  unfold byN numB
  apply UInt8.toNat_inj.1
  rw [UInt8.toNat_ofNat']
  have := x.toNat_lt
  omega
theorem map_byN (t : List UInt8) : (t.map byN).map numB = t := by
  rw [List.map_map]
  conv => rhs; rw [← List.map_id t]
  exact List.map_congr_left fun x _ => numB_byN x
theorem getN_lt (b : List UInt8) (p : Nat) : getN b p 4 < 4294967296 := by
  unfold getN
  have h := smallL_lt _ ((b.drop p).take 4) rfl
  have h2 : 256 ^ ((b.drop p).take 4).length ≤ 256 ^ 4 := Nat.pow_le_pow_right (by omega) (by rw [List.length_take]; omega)
  omega
theorem ofNat_byte (k : Nat) (h : k < 256) : (UInt8.ofNat k).toNat = k := by
  rw [UInt8.toNat_ofNat']; omega

/-- bytes that are taken are the reply's -/
theorem enc_dec (b : List UInt8) (r : Rp) (h : decR b = .ok r) : mayR r = true ∧ encR r = b := by
  unfold decR at h
  by_cases h0 : b = [] ∨ (b.getD 0 0).toNat < 1 ∨ 7 < (b.getD 0 0).toNat
  · rw [if_pos h0] at h; cases h
  rw [if_neg h0] at h
  match b with
  | [] => exact absurd (.inl rfl) h0
  | k :: s =>
    simp only [List.getD_cons_zero] at h h0
    by_cases h1 : k.toNat = 1
    · rw [if_pos h1] at h
      have hk : k = 1 := UInt8.toNat_inj.1 h1
      by_cases hl2 : (k :: s).length < 2
      · rw [if_pos hl2] at h; cases h
      rw [if_neg hl2] at h
      match s with
      | [] => simp at hl2
      | n :: t =>
        simp only [List.getD_cons_succ, List.getD_cons_zero, List.drop_succ_cons, List.drop_zero] at h
        by_cases hb : firstBad (t.take n.toNat) < (t.take n.toNat).length
        · rw [if_pos hb] at h; cases h
        rw [if_neg hb] at h
        by_cases hl : (k :: n :: t).length ≠ 2 + n.toNat
        · rw [if_pos hl] at h; cases h
        rw [if_neg hl] at h
        have hl' : t.length = n.toNat := by simp at hl; omega
        have ht : t.take n.toNat = t := List.take_of_length_le (by omega)
        rw [ht] at hb
        have hfb := firstBad_le t
        have hi := (incr_good t).2 (by omega)
        injection h with h
        subst h
        refine ⟨?_, ?_⟩
        · show (if (1 : Nat) ≠ 1 ∧ _ ∨ (1 : Nat) ≠ 5 ∧ ([] : List UInt8) ≠ [] then _ else _) = true
          rw [if_neg (by simp), if_pos rfl]
          exact hi
        · show (1 : UInt8) :: UInt8.ofNat (t.map byN).length :: (t.map byN).map numB = _
          rw [map_byN, List.length_map, hl', hk]
          congr 2
          exact UInt8.ofNat_toNat
    · rw [if_neg h1] at h
      by_cases h5 : k.toNat = 5
      · rw [if_pos h5] at h
        have hk : k = 5 := UInt8.toNat_inj.1 h5
        by_cases hl2 : (k :: s).length < 5
        · rw [if_pos hl2] at h; cases h
        rw [if_neg hl2] at h
        by_cases hg : getN (k :: s) 1 4 < 1 ∨ 131072 < getN (k :: s) 1 4
        · rw [if_pos hg] at h; cases h
        rw [if_neg hg] at h
        by_cases hl : (k :: s).length ≠ 5 + getN (k :: s) 1 4
        · rw [if_pos hl] at h; cases h
        rw [if_neg hl] at h
        injection h with h
        subst h
        have hl' : (s.drop 4).length = getN (k :: s) 1 4 := by
          rw [List.length_drop]; simp only [List.length_cons] at hl hl2; omega
        refine ⟨?_, ?_⟩
        · show (if (5 : Nat) ≠ 1 ∧ ([] : List Int) ≠ [] ∨ (5 : Nat) ≠ 5 ∧ _ then _ else _) = true
          rw [if_neg (by simp), if_neg (show ¬ (5 : Nat) = 1 by decide), if_pos rfl]
          show (decide (1 ≤ (s.drop 4).length) && decide ((s.drop 4).length ≤ 131072)) = true
          rw [Bool.and_eq_true, decide_eq_true_eq, decide_eq_true_eq]
          omega
        · show (5 : UInt8) :: (bigL 4 (s.drop 4).length ++ s.drop 4) = _
          rw [hl', hk]
          unfold getN
          rw [List.drop_succ_cons, List.drop_zero, big_small 4 _ (by rw [List.length_take]; simp only [List.length_cons] at hl2; omega), List.take_append_drop]
      · rw [if_neg h5] at h
        by_cases hl : (k :: s).length ≠ 1
        · rw [if_pos hl] at h; cases h
        rw [if_neg hl] at h
        have hs : s = [] := by simpa using hl
        injection h with h
        subst h
        subst hs
        refine ⟨?_, ?_⟩
        · show (if k.toNat ≠ 1 ∧ ([] : List Int) ≠ [] ∨ k.toNat ≠ 5 ∧ ([] : List UInt8) ≠ [] then _ else _) = true
          rw [if_neg (by simp), if_neg h1, if_neg h5, Bool.and_eq_true, decide_eq_true_eq, decide_eq_true_eq]
          simp at h0
          show 1 ≤ k.toNat ∧ k.toNat ≤ 7
          omega
        · show UInt8.ofNat k.toNat :: (if k.toNat = 1 then _ else if k.toNat = 5 then _ else []) = _
          rw [if_neg h1, if_neg h5, UInt8.ofNat_toNat]
/-- how many bytes a reply has -/
def totR (b : List UInt8) : Nat := if (b.getD 0 0).toNat = 1 then 2 + (b.getD 1 0).toNat else if (b.getD 0 0).toNat = 5 then 5 + getN b 1 4 else 1
end Go.Proofs.Ytkdmebcfedehiaa
