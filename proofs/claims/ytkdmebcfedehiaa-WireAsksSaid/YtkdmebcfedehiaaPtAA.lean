/- Helpers and contracts of the proofs over this seat: Base, Own, Read, Reach, RdInts, WireRd, Width, Same, Lent, Big, Small, Frm, WireMath, Small32, Clone, Row, Box, Ch, WireLive. Each states what a function of the program answers, or is plain Lean; its conditions stand in each statement. -/
import Derived.Test.YtkdmebcfedehiaaProg
import Derived.WalkKit
import Derived.WalkSpells
import Derived.WalkLawsBesides
import Derived.Deep.QuietTactic
import Derived.BigQuiet
import Derived.Deep.LoopGhost
import Derived.Deep.DeepCutAuto
import Derived.StillTailTactics
import Derived.Deep.DeepMust
import Derived.Lib.Hide
import Derived.Test.YtkdmebcfedehiaaRows
import Derived.ProofKit
import Derived.OpenShut
import Derived.ShutString
import Derived.ChangeOld
import Derived.JoinedCond
import Derived.Deep.Slices
import Derived.SizedLaws
import Derived.Handy
import Derived.Lib.SliceRun
import Derived.Great.BuildSlice
import Derived.Deep.OwnRows
set_option linter.unusedVariables false
/- The words that all walks of this seat share: rows of cells that are read, rows that the call owns, what a call may change. -/
namespace Go.Proofs.Ytkdmebcfedehiaa
open Go.RowKit

/-- a byte as a cell -/
def bval (x : UInt8) : Value := .int .u8 (x.toNat : Int)

/-- from the address a on the cells xs lie (nothing is asked of a where there are none) -/
def Lies (w : World) (a : Option Addr) (xs : List Value) : Prop :=
  ∀ (k : Nat) (h : k < xs.length), ∃ b off, a = some ⟨b, off, none⟩ ∧ w.cell? ⟨b, off + k, none⟩ = some xs[k]

/-- from the address a on these bytes lie -/
def BLies (w : World) (a : Option Addr) (l : List UInt8) : Prop :=
  ∀ (k : Nat) (h : k < l.length), ∃ b off, a = some ⟨b, off, none⟩ ∧ w.cell? ⟨b, off + k, none⟩ = some (.int .u8 ((l[k]).toNat : Int))

theorem BLies.heap {w w' : World} {a : Option Addr} {l : List UInt8} (h : BLies w a l) (hk : ∀ b off, a = some ⟨b, off, none⟩ → b < w.heap.size → w'.heap[b]? = w.heap[b]?) : BLies w' a l := by
  intro k hk'
  obtain ⟨b, off, e, hc⟩ := h k hk'
  exact ⟨b, off, e, (World.cell?_of_block (hk b off e (World.block_lt_of_cell? w _ hc))).trans hc⟩
theorem BLies.grown {w w' : World} {a : Option Addr} {l : List UInt8} (h : BLies w a l) (hg : w.grownBy w' none) : BLies w' a l :=
  h.heap fun b _ _ hb => hg.block b hb (by simp)
theorem BLies.grownNe {w w' : World} {a : Option Addr} {l : List UInt8} {g : Nat} (h : BLies w a l) (hg : w.grownBy w' (some g)) (hne : ∀ b off, a = some ⟨b, off, none⟩ → b ≠ g) : BLies w' a l :=
  h.heap fun b off e hb => hg.block b hb (by have := hne b off e; simpa using this)
theorem BLies.drewN {w : World} {a : Option Addr} {l : List UInt8} (h : BLies w a l) (n : Nat) : BLies (w.drewN n) a l :=
  h.heap fun _ _ _ _ => by simp
theorem BLies.nil (w : World) (a : Option Addr) : BLies w a [] := fun k hk => absurd hk (by simp)
theorem BLies.take {w : World} {a : Option Addr} {l : List UInt8} (h : BLies w a l) (n : Nat) : BLies w a (l.take n) := by
  intro k hk
  obtain ⟨b, off, e, hc⟩ := h k (by simp at hk; omega)
  exact ⟨b, off, e, by rw [hc]; simp⟩

/-- a callee that leaves the world alone, as a drawing region asks it -/
theorem quietS {P : Program} {f : FuncId} {args : Array Value} {w : World} {n : Nat} {v : Value} (h : Calls P f args (w.drewN n) fun e w' => e = .returned v ∧ w.drewN n = w') : Calls P f args (w.drewN n) fun e w'' => e = .returned v ∧ ∃ m, w'' = w.drewN m :=
  Calls.quiet_of_same (h.mono fun _ _ ⟨he, hw⟩ => ⟨he, hw.symm⟩)

theorem quietS2 {P : Program} {f : FuncId} {args : Array Value} {w : World} {q n : Nat} {v : Value} (h : Calls P f args (w.drewN (q + n)) fun e w' => e = .returned v ∧ w.drewN (q + n) = w') : Calls P f args (w.drewN (q + n)) fun e w'' => e = .returned v ∧ ∃ m, w'' = w.drewN (q + m) :=
  h.mono fun _ _ ⟨he, hw⟩ => ⟨he, n, hw.symm⟩

/-- what a call may change: of the blocks that were there those in S alone; there may be new ones -/
structure Ch (S : Nat → Prop) (w w' : World) : Prop where
  os : w'.os = w.os
  tape : w'.tape = w.tape
  output : w'.output = w.output
  size : w.heap.size ≤ w'.heap.size
  block : ∀ k, k < w.heap.size → ¬ S k → w'.heap[k]? = w.heap[k]?

theorem Ch.refl (S : Nat → Prop) (w : World) : Ch S w w := ⟨rfl, rfl, rfl, Nat.le_refl _, fun _ _ _ => rfl⟩
theorem Ch.trans {S T : Nat → Prop} {a b c : World} (h : Ch S a b) (k : Ch T b c) (hT : ∀ i, i < a.heap.size → T i → S i) : Ch S a c :=
  ⟨k.os.trans h.os, k.tape.trans h.tape, k.output.trans h.output, Nat.le_trans h.size k.size, fun i hi hs => (k.block i (Nat.lt_of_lt_of_le hi h.size) (fun ht => hs (hT i hi ht))).trans (h.block i hi hs)⟩

end Go.Proofs.Ytkdmebcfedehiaa
/- Rows that the call owns, and the laws of append over them: an append of any cells; an append of one value. -/
namespace Go.Proofs.Ytkdmebcfedehiaa
open Go.RowKit

/-- what the program's table has of a slice type and its elements -/
structure El (P : Program) (t e : TypeId) (z : Value) (size bytes : Nat) : Prop where
  slice : P.underlying t = some (.slice e)
  info : ∃ i, P.info? e = some i ∧ i.zero = some z ∧ i.size = size ∧ i.bytes = bytes
  zs : z.cells.size = size
  pos : 0 < size

/-- the value '.slice a n c' owns the cells xs: it has no room at all, or it begins at the head of a block from 'base' on -/
def Own (w : World) (base : Nat) (e : TypeId) (size : Nat) (a : Option Addr) (n c : Nat) (xs : List Value) : Prop :=
  xs.length = n * size ∧ ((n = 0 ∧ c = 0) ∨
    ∃ g cur, a = some ⟨g, 0, none⟩ ∧ base ≤ g ∧ w.heap[g]? = some (.cells cur e (0, 0)) ∧ n ≤ c ∧ c ≤ maxLen ∧ cur.size = c * size ∧ cur.toList.take (n * size) = xs)

theorem Own.nil (w : World) (base : Nat) (e : TypeId) (size : Nat) (a : Option Addr) : Own w base e size a 0 0 [] := ⟨by simp, .inl ⟨rfl, rfl⟩⟩

theorem Own.cap {w : World} {base : Nat} {e : TypeId} {size : Nat} {a : Option Addr} {n c : Nat} {xs : List Value} (h : Own w base e size a n c xs) : n ≤ c ∧ c ≤ maxLen := by
  rcases h.2 with ⟨h0, h1⟩ | ⟨g, cur, ha, hb, hh, hn, hm, _⟩
  · subst h0; subst h1; unfold maxLen; omega
  · exact ⟨hn, hm⟩

theorem Own.block {w : World} {base : Nat} {e : TypeId} {size : Nat} {a : Option Addr} {n c : Nat} {xs : List Value} (h : Own w base e size a n c xs) (hc : 0 < c) : ∃ g, a = some ⟨g, 0, none⟩ ∧ base ≤ g ∧ g < w.heap.size := by
  rcases h.2 with ⟨_, h0⟩ | ⟨g, cur, ha, hb, hh, _⟩
  · omega
  · exact ⟨g, ha, hb, (Array.getElem?_eq_some_iff.1 hh).1⟩

/-- what is owned stays owned where its block stands -/
theorem Own.kept' {w w' : World} {base : Nat} {e : TypeId} {size : Nat} {a : Option Addr} {n c : Nat} {xs : List Value} (h : Own w base e size a n c xs) (hk : 0 < c → ∀ g, a = some ⟨g, 0, none⟩ → g < w.heap.size → w'.heap[g]? = w.heap[g]?) : Own w' base e size a n c xs := by
  refine ⟨h.1, ?_⟩
  rcases h.2 with h0 | ⟨g, cur, ha, hb, hh, hn, r⟩
  · exact .inl h0
  · by_cases hc : 0 < c
    · exact .inr ⟨g, cur, ha, hb, (hk hc g ha (Array.getElem?_eq_some_iff.1 hh).1).trans hh, hn, r⟩
    · exact .inl ⟨by omega, by omega⟩
theorem Own.kept {w w' : World} {base : Nat} {e : TypeId} {size : Nat} {a : Option Addr} {n c : Nat} {xs : List Value} (h : Own w base e size a n c xs) (hk : ∀ g, a = some ⟨g, 0, none⟩ → g < w.heap.size → w'.heap[g]? = w.heap[g]?) : Own w' base e size a n c xs :=
  h.kept' fun _ => hk

theorem Own.mono {w : World} {base base' : Nat} {e : TypeId} {size : Nat} {a : Option Addr} {n c : Nat} {xs : List Value} (h : Own w base e size a n c xs) (hb : base' ≤ base) : Own w base' e size a n c xs := by
  refine ⟨h.1, ?_⟩
  rcases h.2 with h0 | ⟨g, cur, ha, hbg, r⟩
  · exact .inl h0
  · exact .inr ⟨g, cur, ha, by omega, r⟩

/-- the cells of what is owned -/
theorem Own.cell {w : World} {base : Nat} {e : TypeId} {size : Nat} {a : Option Addr} {n c : Nat} {xs : List Value} (h : Own w base e size a n c xs) (k : Nat) (hk : k < xs.length) : ∃ g, a = some ⟨g, 0, none⟩ ∧ base ≤ g ∧ g < w.heap.size ∧ w.cell? ⟨g, k, none⟩ = some xs[k] ∧ w.frozen? ⟨g, k, none⟩ = false := by
  rcases h.2 with ⟨h0, _⟩ | ⟨g, cur, ha, hb, hh, hn, hm, hs, ht⟩
  · have := h.1; subst h0; simp at this; subst this; simp at hk
  · refine ⟨g, ha, hb, (Array.getElem?_eq_some_iff.1 hh).1, ?_, ?_⟩
    · have hl := h.1
      have e1 : (cur.toList.take (n * size))[k]? = xs[k]? := by rw [ht]
      rw [List.getElem?_take, if_pos (by omega), List.getElem?_eq_getElem hk] at e1
      simp only [World.cell?, hh]
      simpa using e1
    · simp [World.frozen?, hh]

/-- a store into what is owned -/
theorem Own.set {w : World} {base : Nat} {e : TypeId} {size : Nat} {g n c : Nat} {xs : List Value} (h : Own w base e size (some ⟨g, 0, none⟩) n c xs) (k : Nat) (hk : k < xs.length) (u : Value) : Own (w.setCell ⟨g, k, none⟩ u) base e size (some ⟨g, 0, none⟩) n c (xs.set k u) := by
  refine ⟨by rw [List.length_set]; exact h.1, ?_⟩
  rcases h.2 with ⟨h0, _⟩ | ⟨g', cur, ha, hb, hh, hn, hm, hs, ht⟩
  · have := h.1; subst h0; simp at this; subst this; simp at hk
  · obtain rfl : g = g' := by simpa using ha
    have hl := h.1
    refine .inr ⟨g, cur.setIfInBounds k u, rfl, hb, ?_, hn, hm, by simpa using hs, ?_⟩
    · simp only [World.setCell, Array.getElem?_modify, ↓reduceIte, hh, Option.map_some]
      simp
    · rw [Array.toList_setIfInBounds, List.take_set, ht]

theorem grownBy_setCell (w : World) (g k : Nat) (u : Value) : w.grownBy (w.setCell ⟨g, k, none⟩ u) (some g) :=
  ⟨rfl, rfl, rfl, by simp [World.setCell], fun i _ hr => Below.heap_setCell _ _ _ _ (by simpa using hr)⟩

/-- an array in a block of its own, its cells told -/
theorem own_array (w : World) (e : TypeId) (cs : Array Value) (n : Nat) (hn : cs.size = n) (hm : n ≤ maxLen) : Own (w.alloc (.cells cs e)) w.heap.size e 1 (some ⟨w.heap.size, 0, none⟩) n n cs.toList := by
  subst hn
  exact ⟨by simp, .inr ⟨w.heap.size, _, rfl, Nat.le_refl _, heap_alloc_new w _, Nat.le_refl _, hm, by simp, by rw [Nat.mul_one, List.take_of_length_le (by simp)]⟩⟩
/-- the whole of a block that is owned -/
theorem Own.whole {w : World} {base : Nat} {e : TypeId} {g n : Nat} {xs : List Value} (h : Own w base e 1 (some ⟨g, 0, none⟩) n n xs) (hn : 0 < n) : w.heap[g]? = some (.cells xs.toArray e (0, 0)) := by
  rcases h.2 with ⟨h0, _⟩ | ⟨g', cur, ha, hb, hh, hnn, hm, hs, ht⟩
  · omega
  · injection ha with ha; injection ha with ha
    subst ha
    rw [hh, ← ht, List.take_of_length_le (by simp; omega)]
theorem grownBy_setRow (w : World) (g : Nat) (cs : Array Value) : w.grownBy (w.setRow g cs) (some g) :=
  ⟨rfl, rfl, rfl, by simp, fun k _ hk => setRow_other w g k _ (fun e => hk (by simp [e]))⟩

/-- what an append has done to the world and the address: nothing; written into its own block; a new block -/
def GrewP (w w1 : World) (a : Option Addr) (c : Nat) (a' : Option Addr) (c' : Nat) : Prop :=
  (∃ g, a' = some ⟨g, 0, none⟩ ∧ a = a' ∧ 0 < c ∧ c' = c ∧ w.grownBy w1 (some g)) ∨ (∃ g, a' = some ⟨g, 0, none⟩ ∧ w.heap.size ≤ g ∧ w.grownBy w1 none)
def Grew (w w1 : World) (a : Option Addr) (c : Nat) (a' : Option Addr) (c' : Nat) : Prop := (a' = a ∧ c' = c ∧ w1 = w) ∨ GrewP w w1 a c a' c'
theorem GrewP.grew {w w1 : World} {a : Option Addr} {c : Nat} {a' : Option Addr} {c' : Nat} (h : GrewP w w1 a c a' c') : Grew w w1 a c a' c' := .inr h

theorem grownBy_trans {a b c : World} {row : Option Nat} (h : a.grownBy b row) (k : b.grownBy c row) : a.grownBy c row :=
  ⟨k.os.trans h.os, k.tape.trans h.tape, k.output.trans h.output, Nat.le_trans h.size k.size, fun i hi hr => (k.block i (Nat.lt_of_lt_of_le hi h.size) hr).trans (h.block i hi hr)⟩
theorem grownBy_none {a b : World} {row : Option Nat} (h : a.grownBy b row) (hr : ∀ g, row = some g → a.heap.size ≤ g) : a.grownBy b none :=
  ⟨h.os, h.tape, h.output, h.size, fun i hi _ => h.block i hi (fun e => by have := hr i e.symm; omega)⟩
theorem grownBy_some {a b : World} (h : a.grownBy b none) (row : Option Nat) : a.grownBy b row :=
  ⟨h.os, h.tape, h.output, h.size, fun i hi _ => h.block i hi (by simp)⟩
theorem grownBy_old {a b c : World} {g : Nat} (h : a.grownBy b none) (k : b.grownBy c (some g)) (hg : a.heap.size ≤ g) : a.grownBy c none :=
  grownBy_none (grownBy_trans (grownBy_some h (some g)) k) (by rintro g' ⟨⟩; exact hg)
theorem grownBy_al {a b : World} (h : a.grownBy b none) (o : Obj) : a.grownBy (b.alloc o) none := grownBy_trans h (World.grownBy_alloc b o none)
theorem grownBy_dr {a b : World} (h : a.grownBy b none) (n : Nat) : a.grownBy (b.drewN n) none := ⟨h.os, h.tape, h.output, h.size, h.block⟩
theorem grownBy_drewN (w : World) (n : Nat) (row : Option Nat) : w.grownBy (w.drewN n) row := ⟨rfl, rfl, rfl, Nat.le_refl _, fun _ _ _ => rfl⟩

theorem Grew.size {w w1 : World} {a : Option Addr} {c : Nat} {a' : Option Addr} {c' : Nat} (h : Grew w w1 a c a' c') : w.heap.size ≤ w1.heap.size := by
  rcases h with ⟨_, _, rfl⟩ | ⟨g, _, _, _, _, h⟩ | ⟨g, _, _, h⟩
  · exact Nat.le_refl _
  · exact h.size
  · exact h.size

/-- of what lay before the base nothing has turned -/
theorem Grew.grown {w0 w w1 : World} {base : Nat} {e : TypeId} {size : Nat} {a : Option Addr} {n c : Nat} {xs : List Value} {a' : Option Addr} {c' : Nat} (h : Grew w w1 a c a' c') (ho : Own w base e size a n c xs) (hg : w0.grownBy w none) (hb : w0.heap.size ≤ base) : w0.grownBy w1 none := by
  rcases h with ⟨_, _, rfl⟩ | ⟨g, ha, rfl, hc, _, h⟩ | ⟨g, _, _, h⟩
  · exact hg
  · obtain ⟨g', he, hb', _⟩ := ho.block hc
    rw [ha] at he
    obtain rfl : g = g' := by simpa using he
    exact grownBy_old hg h (by omega)
  · exact grownBy_trans hg h

/-- another row stays -/
theorem Grew.other {w w1 : World} {a : Option Addr} {c : Nat} {a' : Option Addr} {c' : Nat} (h : Grew w w1 a c a' c') (k : Nat) (hk : k < w.heap.size) (hne : ∀ g, 0 < c → a = some ⟨g, 0, none⟩ → k ≠ g) : w1.heap[k]? = w.heap[k]? := by
  rcases h with ⟨_, _, rfl⟩ | ⟨g, ha, rfl, hc, _, h⟩ | ⟨g, _, _, h⟩
  · rfl
  · exact h.block k hk (by have := hne g hc ha; simpa using this)
  · exact h.block k hk (by simp)

section
variable {P : Program}

theorem run_app (w : World) {t ty e : TypeId} {z : Value} {size bytes : Nat} (H : El P t e z size bytes) {base : Nat} {a : Option Addr} {n c : Nat} {xs : List Value} (hown : Own w base e size a n c xs)
    (ad : Addr) (m c2 : Nat) (news : List Value) (hl : news.length = m * size) (hnews : ∀ j u, news[j]? = some u → w.cell? (ad.add j) = some u) (h1 : ∀ u ∈ news, u.oneCell' = true)
    (h63 : n + m ≤ maxLen) (hbytes : (n + m) * bytes ≤ 140737488355328) (hbase : base ≤ w.heap.size) (hnil : a = none → c = 0 → n = 0 → True) (hm : 0 < m) :
    ∃ g c' w1, (Builtin.append_ #[t, t] ty #[.slice a n c, .slice (some ad) m c2]).run P w = .ok (.slice (some ⟨g, 0, none⟩) (n + m) c') w1 ∧ Own w1 base e size (some ⟨g, 0, none⟩) (n + m) c' (xs ++ news) ∧ GrewP w w1 a c (some ⟨g, 0, none⟩) c' := by
  obtain ⟨ht, ⟨i, hi, hz, rfl, rfl⟩, hzs, hsz⟩ := H
  have hsmall : n + m ≤ 9223372036854775807 := by simp only [maxLen] at h63; omega
  have hlen : (xs ++ news).length = (n + m) * i.size := by rw [List.length_append, hown.1, hl, Nat.add_mul]
  have grown : ∀ (old : Nat), old < n + m →
      Own (w.drew.alloc (.cells (xs.toArray ++ news.toArray ++ Builtin.zeroCells z.cells (grownCap w (n + m) old e - (n + m))) e)) base e i.size
        (some ⟨w.heap.size, 0, none⟩) (n + m) (grownCap w (n + m) old e) (xs ++ news) ∧
      w.grownBy (w.drew.alloc (.cells (xs.toArray ++ news.toArray ++ Builtin.zeroCells z.cells (grownCap w (n + m) old e - (n + m))) e)) none := by
    intro old ho
    have hge := grownCap_ge w (n + m) old e
    have hcm : grownCap w (n + m) old e ≤ maxLen := grownCap_le_maxLen w (n + m) old e h63
    refine ⟨⟨hlen, .inr ⟨w.heap.size, _, rfl, hbase, heap_alloc_new w.drew _, hge, hcm, ?_, ?_⟩⟩, ⟨rfl, rfl, rfl, by simp, fun k hk _ => Below.heap_alloc w.drew _ k hk⟩⟩
    · simp only [Array.size_append, List.size_toArray, size_zeroCells, hzs, hown.1, hl, ← Nat.add_mul]
      congr 1
      omega
    · simp only [Array.toList_append, List.append_assoc]
      rw [← List.append_assoc, ← hlen]
      exact List.take_left
  rcases hown.2 with ⟨rfl, rfl⟩ | ⟨g, cur, rfl, hbg, hg, hnc, hcm, hcs, htake⟩
  · have hx : xs = [] := List.eq_nil_of_length_eq_zero (by simpa using hown.1)
    subst hx
    have hgr := grown 0 (by omega)
    cases a with
    | none =>
      have hr := run_append_nil (P := P) w t ty e i z ht hi hz ad m c2 news hl hnews hm (by omega) (by have hb := hbytes; simp only [Nat.zero_add] at hb; omega)
      simp only [Nat.zero_add, List.nil_append, Array.empty_append] at hgr ⊢
      exact ⟨_, _, _, hr, hgr.1, .inr ⟨_, rfl, Nat.le_refl _, hgr.2⟩⟩
    | some b =>
      have hr := run_append_grow (P := P) w t ty e i z ht hi hz b 0 0 [] (by simp) (by simp) ad m c2 news hl hnews (by omega) (by omega) (growslice_fits (by omega) hbytes)
      exact ⟨_, _, _, hr, hgr.1, .inr ⟨_, rfl, Nat.le_refl _, hgr.2⟩⟩
  · by_cases hroom : n + m ≤ c
    · have hfit : n * i.size + news.length ≤ cur.size := by rw [hl, hcs, ← Nat.add_mul]; exact Nat.mul_le_mul_right _ hroom
      have hr := run_append_room (P := P) w t ty e i ht hi g n c cur hg ad m c2 news hl hnews h1 hroom hfit
      refine ⟨_, _, _, hr, ⟨hlen, .inr ⟨g, _, rfl, hbg, setRow_heap w g cur _ e _ hg, hroom, hcm, ?_, ?_⟩⟩, .inl ⟨g, rfl, rfl, by omega, rfl, ⟨rfl, rfl, rfl, by simp, fun k _ hk => setRow_other w g k _ (fun e => hk (by simp [e]))⟩⟩⟩
      · simp only [List.size_toArray, List.length_append, List.length_take, List.length_drop, Array.length_toList]
        omega
      · rw [htake, ← hlen]
        exact List.take_left
    · have holds : ∀ j u, xs[j]? = some u → w.cell? ((⟨g, 0, none⟩ : Addr).add j) = some u := by
        intro j u hu
        have hadd : (⟨g, 0, none⟩ : Addr).add j = ⟨g, j, none⟩ := by unfold Addr.add; split <;> simp_all
        obtain ⟨hj, rfl⟩ := List.getElem?_eq_some_iff.1 hu
        obtain ⟨g', e1, _, _, hc, _⟩ := hown.cell j hj
        obtain rfl : g = g' := by simpa using e1
        rw [hadd]; exact hc
      have hr := run_append_grow (P := P) w t ty e i z ht hi hz ⟨g, 0, none⟩ n c xs hown.1 holds ad m c2 news hl hnews (by omega) (by omega) (growslice_fits (by omega) hbytes)
      have hgr := grown c (by omega)
      exact ⟨_, _, _, hr, hgr.1, .inr ⟨_, rfl, Nat.le_refl _, hgr.2⟩⟩

/-- append of cells that lie somewhere (there is at least one) -/
theorem wpList_app {w : World} {ops : Array Oper} {rest : List Oper} {o : Oper} {act : Act} {Q : Exit → Act → World → Prop} {t e : TypeId} {z : Value} {size bytes : Nat} (H : El P t e z size bytes)
    (hgd : o.guard = none) (s x : Operand) (ho : o.op = .call { callee := .builtin .append, args := #[s, x], argTypes := #[t, t] })
    {base : Nat} {a : Option Addr} {n c : Nat} {xs : List Value} (hs : act.eval s = .slice a n c) (hown : Own w base e size a n c xs)
    (ad : Addr) (m c2 : Nat) (news : List Value) (hx : act.eval x = .slice (some ad) m c2) (hl : news.length = m * size) (hnews : ∀ j u, news[j]? = some u → w.cell? (ad.add j) = some u) (h1 : ∀ u ∈ news, u.oneCell' = true)
    (h63 : n + m ≤ maxLen) (hbytes : (n + m) * bytes ≤ 140737488355328) (hbase : base ≤ w.heap.size) (hm : 0 < m)
    (h : ∀ g c' w1, Own w1 base e size (some ⟨g, 0, none⟩) (n + m) c' (xs ++ news) → GrewP w w1 a c (some ⟨g, 0, none⟩) c' → wpList P ops Q rest (act.put o.dst (.slice (some ⟨g, 0, none⟩) (n + m) c')) w1) : wpList P ops Q (o :: rest) act w := by
  refine wpList_plain hgd fun K hK => ?_
  obtain ⟨g, c', w1, hr, h2, h3⟩ := run_app (P := P) (ty := o.type) w H hown ad m c2 news hl hnews h1 h63 hbytes hbase (fun _ _ _ => trivial) hm
  unfold Oper.wp execOp
  simp only [ho, resolve, invoke, builtin, Sem.run_bind, Sem.run_pure, Result.andThen_ok, List.map_toArray, List.map_cons, List.map_nil, hs, hx, hr]
  exact hK _ _ (h g c' w1 h2 h3)

/-- append of one value of one cell: the translation has just laid it in a block of its own -/
theorem wpList_push {w : World} {ops : Array Oper} {rest : List Oper} {o : Oper} {act : Act} {Q : Exit → Act → World → Prop} {t e : TypeId} {z : Value} {bytes : Nat} (H : El P t e z 1 bytes)
    (hgd : o.guard = none) (s x : Operand) (ho : o.op = .call { callee := .builtin .append, args := #[s, x], argTypes := #[t, t] })
    {base : Nat} {a : Option Addr} {n c : Nat} {xs : List Value} (hs : act.eval s = .slice a n c) (hown : Own w base e 1 a n c xs)
    (u : Value) (hx : act.eval x = .slice (some ⟨w.heap.size, 0, none⟩) 1 1) (h1 : u.oneCell' = true)
    (h63 : n + 1 ≤ maxLen) (hbytes : (n + 1) * bytes ≤ 140737488355328) (hbase : base ≤ w.heap.size)
    (h : ∀ g c' w1, Own w1 base e 1 (some ⟨g, 0, none⟩) (n + 1) c' (xs ++ [u]) → GrewP w w1 a c (some ⟨g, 0, none⟩) c' → wpList P ops Q rest (act.put o.dst (.slice (some ⟨g, 0, none⟩) (n + 1) c')) w1) : wpList P ops Q (o :: rest) act (w.alloc (.cells #[u] e)) := by
  have hga : w.grownBy (w.alloc (.cells #[u] e)) none := World.grownBy_alloc w _ none
  refine wpList_app H hgd s x ho hs (hown.kept fun g _ hg => hga.block g hg (by simp)) ⟨w.heap.size, 0, none⟩ 1 1 [u] hx (by simp) (cell_one_new _ _ _) (by simpa using h1) h63 hbytes (by have := hga.size; omega) (by omega) ?_
  intro g c' w1 h2 h3
  refine h g c' w1 h2 ?_
  rcases h3 with ⟨g', e1, e2, hc, hcc, hg⟩ | ⟨g', e1, hs', hg⟩
  · exact .inl ⟨g', e1, e2, hc, hcc, grownBy_trans (grownBy_some hga _) hg⟩
  · exact .inr ⟨g', e1, by have := hga.size; omega, grownBy_trans hga hg⟩
end

end Go.Proofs.Ytkdmebcfedehiaa
/- What came in, as the walks want it: bytes that lie in memory; and what the bound on bulk says of a length. -/
namespace Go.Proofs.Ytkdmebcfedehiaa
open Go.ChangeShapes Go.WideShapes Go.ChangeAt Go.RowKit

theorem ownKnobT : ownKnob Try.prog.godebug = none := by kernel_rfl
theorem laidOutT : laidOutB Try.prog = true := by kernel_rfl

theorem bulk_pos {H : Type} (d : DataW H) : 1 ≤ Rows.uptoBulk d := by
  cases d with
  | lit l => cases l <;> simp [Rows.uptoBulk]
  | nil => simp [Rows.uptoBulk]
  | ptr d => simp [Rows.uptoBulk]
  | slice elems spare => simp [Rows.uptoBulk]
  | agg parts => simp [Rows.uptoBulk]
  | iface t d => simp [Rows.uptoBulk]
  | map entries => simp [Rows.uptoBulk]
  | held h => simp [Rows.uptoBulk]
theorem bulk_length {H : Type} (l : List (DataW H)) : l.length ≤ Rows.uptoBulkAll l := by
  induction l with
  | nil => simp [Rows.uptoBulkAll]
  | cons x r ih => have := bulk_pos x; simp only [Rows.uptoBulkAll, List.length_cons]; omega
theorem bulk_small {H : Type} {l : List (DataW H)} (hk : Rows.uptoSmall H l = true) : Rows.uptoBulkAll l ≤ 1048576 := of_decide_eq_true hk
theorem bulk_slice {H : Type} (elems spare : List (DataW H)) : Rows.uptoBulkAll elems + 1 ≤ Rows.uptoBulk (.slice elems spare) := by
  simp only [Rows.uptoBulk]; omega
theorem bulk_app {H : Type} (l r : List (DataW H)) : Rows.uptoBulkAll (l ++ r) = Rows.uptoBulkAll l + Rows.uptoBulkAll r := by
  induction l with
  | nil => simp [Rows.uptoBulkAll]
  | cons x l ih => simp only [List.cons_append, Rows.uptoBulkAll, ih]; omega

theorem u8_of_wf {n : Int} (h : (Lit.int .u8 n).wf = true) : ((UInt8.ofNat n.toNat).toNat : Int) = n := by
  have h' : 0 ≤ n ∧ n ≤ 255 := by simpa [Lit.wf, IntKind.min, IntKind.max, IntKind.signed, IntKind.bits] using h
  rw [UInt8.toNat_ofNat']
  omega

/-- a slice of bytes that came in -/
theorem rd_bytes {H : Type} {enc : TypeId × Value → H} {W : World} {base : Nat} {spare : Nat → Bool} {held : Bool} {fuel : Nat} {a : Option Addr} {len cap : Nat} {d : DataW H} {p : List MemPlace}
    (h : DataW.trod enc Try.prog W base spare held fuel 24 [.slice a len cap] = some (d, p)) : ∃ l : List UInt8, l.length = len ∧ BLies W a l ∧ len + 1 ≤ Rows.uptoBulk d ∧ len ≤ cap ∧ cap ≤ maxLen := by
  rcases open_ints Try.underlying24 Try.underlying5 (by kernel_rfl) h with ⟨hcs, hx⟩ | ⟨x, len', cap', zs, hcs, _, hl, hm, hz, hx, hcell, hwz⟩
  · simp at hcs
    obtain ⟨rfl, rfl, rfl⟩ := hcs
    injection hx with hx _
    subst hx
    exact ⟨[], rfl, BLies.nil _ _, by simp [Rows.uptoBulk], Nat.le_refl _, by unfold maxLen; omega⟩
  · simp at hcs
    obtain ⟨rfl, rfl, rfl⟩ := hcs
    injection hx with hx _
    subst hx
    have hzl : len ≤ zs.length := by rw [hz]; split <;> omega
    refine ⟨(zs.take len).map fun z => UInt8.ofNat z.toNat, by simp; omega, ?_, ?_, hl, hm⟩
    · intro k hk
      have hk' : k < zs.length := by simp at hk; omega
      obtain ⟨b, off, rfl, hc⟩ := ints_at hcell (by omega)
      refine ⟨b, off, rfl, ?_⟩
      rw [hc k hk']
      have e : zs.getD k 0 = zs[k] := by simp [hk']
      rw [e]
      simp only [List.getElem_map, List.getElem_take]
      rw [u8_of_wf (hwz _ (List.getElem_mem _))]
    · have h1 := bulk_slice (H := H) (lits .u8 (zs.take len)) (lits .u8 (zs.drop len))
      have h2 := bulk_length (H := H) (lits .u8 (zs.take len))
      have h3 : (lits (H := H) .u8 (zs.take len)).length = len := by simp [lits]; omega
      omega

theorem u64_of_wf {n : Int} (h : (Lit.int .u64 n).wf = true) : ∃ m : Nat, n = m ∧ m < 18446744073709551616 := by
  have h' : 0 ≤ n ∧ n ≤ 18446744073709551615 := by simpa [Lit.wf, IntKind.min, IntKind.max, IntKind.signed, IntKind.bits] using h
  exact ⟨n.toNat, by omega, by omega⟩
theorem i64_of_wf {n : Int} (h : (Lit.int .i64 n).wf = true) : -9223372036854775808 ≤ n ∧ n ≤ 9223372036854775807 := by
  simpa [Lit.wf, IntKind.min, IntKind.max, IntKind.signed, IntKind.bits] using h
theorem byte_of_wf {n : Int} (h : (Lit.int .u8 n).wf = true) : ∃ m : UInt8, n = (m.toNat : Int) := ⟨_, (u8_of_wf h).symm⟩

theorem grown_all {w w' : World} (h : w.grownBy w' none) : Below w.heap.size w w' := ⟨h.os, h.tape, h.output, h.size, fun k hk => h.block k hk (by simp)⟩

end Go.Proofs.Ytkdmebcfedehiaa
/- The form's reach: how long a list of bytes that came in may be. -/
namespace Go.Proofs.Ytkdmebcfedehiaa
open Go.ChangeShapes Go.WideShapes Go.ChangeAt Go.RowKit

theorem bytes_u8 : Try.prog.bytesOf 5 = 1 := by kernel_rfl
theorem rd_reach {H : Type} {enc : TypeId × Value → H} {W : World} {base : Nat} {spare : Nat → Bool} {held : Bool} {fuel : Nat} {a : Option Addr} {len cap : Nat} {d : DataW H} {p : List MemPlace}
    (h : DataW.trod enc Try.prog W base spare held fuel 24 [.slice a len cap] = some (d, p)) {ts : List TypeId} {ds : List (DataW H)} (hsz : (DataW.weightsEach Try.prog ts ds).all (· ≤ reachBytes) = true) (j : Nat) (ht : ts[j]? = some 24) (hd : ds[j]? = some d) : len ≤ 140737488351232 := by
  rcases open_ints Try.underlying24 Try.underlying5 (by kernel_rfl) h with ⟨hcs, hx⟩ | ⟨x, len', cap', zs, hcs, _, hl, hm, hz, hx, hcell, hwz⟩
  · simp at hcs
    omega
  · simp at hcs
    obtain ⟨rfl, rfl, rfl⟩ := hcs
    injection hx with hx _
    subst hx
    have h1 := sized_slice hsz ht hd Try.underlying24
    rw [bytes_u8] at h1
    simp [lits] at h1
    have hzl : len ≤ zs.length := by rw [hz]; split <;> omega
    unfold reachBytes at h1
    omega

end Go.Proofs.Ytkdmebcfedehiaa
/- A list of whole numbers that came in, read. -/
namespace Go.Proofs.Ytkdmebcfedehiaa
open Go.ChangeShapes Go.WideShapes Go.ChangeAt Go.RowKit

/-- whole numbers as cells -/
def IV (zs : List Int) : List Value := zs.map (fun z => .int .i64 z)

theorem rd_ints {H : Type} {enc : TypeId × Value → H} {W : World} {base : Nat} {spare : Nat → Bool} {held : Bool} {fuel : Nat} {a : Option Addr} {len cap : Nat} {d : DataW H} {p : List MemPlace}
    (h : DataW.trod enc Try.prog W base spare held fuel 23 [.slice a len cap] = some (d, p)) : ∃ zs : List Int, zs.length = len ∧ Lies W a (IV zs) ∧ (∀ z ∈ zs, -9223372036854775808 ≤ z ∧ z ≤ 9223372036854775807) ∧ len + 1 ≤ Rows.uptoBulk d ∧ len ≤ cap ∧ cap ≤ maxLen := by
  rcases open_ints Try.underlying23 Try.underlying3 (by kernel_rfl) h with ⟨hcs, hx⟩ | ⟨x, len', cap', zs, hcs, _, hl, hm, hz, hx, hcell, hwz⟩
  · simp at hcs
    obtain ⟨rfl, rfl, rfl⟩ := hcs
    injection hx with hx _
    subst hx
    exact ⟨[], rfl, fun k hk => absurd hk (by simp [IV]), fun z hz => (by cases hz), by simp [Rows.uptoBulk], Nat.le_refl _, by unfold maxLen; omega⟩
  · simp at hcs
    obtain ⟨rfl, rfl, rfl⟩ := hcs
    injection hx with hx _
    subst hx
    have hzl : len ≤ zs.length := by rw [hz]; split <;> omega
    refine ⟨zs.take len, by simp; omega, ?_, fun z hz2 => i64_of_wf (hwz _ (List.mem_of_mem_take hz2)), ?_, hl, hm⟩
    · intro k hk
      have hk' : k < zs.length := by simp [IV] at hk; omega
      obtain ⟨b, off, rfl, hc⟩ := ints_at hcell (by omega)
      refine ⟨b, off, rfl, ?_⟩
      rw [hc k hk']
      have e : zs.getD k 0 = zs[k] := by simp [hk']
      rw [e]
      simp [IV]
    · have h1 := bulk_slice (H := H) (lits .i64 (zs.take len)) (lits .i64 (zs.drop len))
      have h2 := bulk_length (H := H) (lits .i64 (zs.take len))
      have h3 : (lits (H := H) .i64 (zs.take len)).length = len := by simp [lits]; omega
      omega

end Go.Proofs.Ytkdmebcfedehiaa
/- Replies that came in. -/
namespace Go.Proofs.Ytkdmebcfedehiaa
open Go.ChangeShapes Go.WideShapes Go.ChangeAt Go.RowKit

theorem bulk_mem {H : Type} {l : List (DataW H)} {d : DataW H} (h : d ∈ l) : Rows.uptoBulk d ≤ Rows.uptoBulkAll l := by
  induction l with
  | nil => cases h
  | cons x r ih =>
    simp only [Rows.uptoBulkAll]
    rcases List.mem_cons.1 h with rfl | h
    · omega
    · have := ih h; omega
section
variable {H : Type} {enc : TypeId × Value → H} {w : World} {base : Nat} {spare : Nat → Bool} {held : Bool}
theorem okWide_struct {P : Program} {r : Reach} {b0 : Nat} {t : TypeId} {fs : Array Field} {v : Value} (ht : P.underlying t = some (.struct fs)) (h : Value.okWide P w r b0 t v) : ∃ cs, v = .agg cs ∧ cs.size = P.cellsOf t := by
  simp only [Value.okWide, ht] at h
  obtain ⟨cs, h1, h2, _⟩ := h
  exact ⟨cs, h1, h2⟩
set_option maxRecDepth 100000 in
/-- a reply's three cells -/
theorem rd_rep {fuel : Nat} {cs : List Value} {d : DataW H} {p : List MemPlace} (hl : cs.length = 3) (hf : DataW.trod enc Try.prog w base spare held fuel 26 cs = some (d, p)) :
    ∃ (k : Nat) (an : Option Addr) (nn cn : Nat) (ab : Option Addr) (nb cb : Nat) (ns : List Int) (bs : List UInt8), cs = [.int .u8 (k : Int), .slice an nn cn, .slice ab nb cb] ∧ k < 256 ∧ Lies w an (IV ns) ∧ ns.length = nn ∧ BLies w ab bs ∧ bs.length = nb ∧ nn ≤ cn ∧ cn ≤ maxLen ∧ nb ≤ cb ∧ cb ≤ maxLen ∧ nn + 1 ≤ Rows.uptoBulk d ∧ nb + 1 ≤ Rows.uptoBulk d := by
  obtain ⟨xs, m, _, hx, _, hxl, hi⟩ := DataW.trod_struct Try.underlying26 hf
  have h0 := hi 0 _ rfl
  have h1 := hi 1 _ rfl
  have h2 := hi 2 _ rfl
  have hxl3 : xs.length = 3 := hxl
  match cs, hl with
  | [v0, v1, v2], _ =>
    match xs, hxl3 with
    | [y0, y1, y2], _ =>
      have t0 : DataW.trod enc Try.prog w base spare held m 22 [v0] = some (y0.1, y0.2) := h0
      have t1 : DataW.trod enc Try.prog w base spare held m 23 [v1] = some (y1.1, y1.2) := h1
      have t2 : DataW.trod enc Try.prog w base spare held m 24 [v2] = some (y2.1, y2.2) := h2
      have b1 : Rows.uptoBulk y1.1 ≤ Rows.uptoBulk d := by
        injection hx with hx _
        rw [hx]
        simp only [Rows.uptoBulk]
        have := bulk_mem (l := [y0, y1, y2].map (·.1)) (d := y1.1) (by simp)
        omega
      have b2 : Rows.uptoBulk y2.1 ≤ Rows.uptoBulk d := by
        injection hx with hx _
        rw [hx]
        simp only [Rows.uptoBulk]
        have := bulk_mem (l := [y0, y1, y2].map (·.1)) (d := y2.1) (by simp)
        omega
      obtain ⟨n, ea, _, wa⟩ := DataW.trod_int Try.underlying22 t0
      injection ea with ea _
      obtain ⟨x, rfl⟩ := byte_of_wf wa
      have hs1 : ∃ a ln c, v1 = .slice a ln c := by
        rcases open_ints Try.underlying23 Try.underlying3 (by kernel_rfl) t1 with ⟨hcs, _⟩ | ⟨x, len', cap', zs, hcs, _⟩
        · injection hcs with hcs; exact ⟨_, _, _, hcs⟩
        · injection hcs with hcs; exact ⟨_, _, _, hcs⟩
      have hs2 : ∃ a ln c, v2 = .slice a ln c := by
        rcases open_ints Try.underlying24 Try.underlying5 (by kernel_rfl) t2 with ⟨hcs, _⟩ | ⟨x, len', cap', zs, hcs, _⟩
        · injection hcs with hcs; exact ⟨_, _, _, hcs⟩
        · injection hcs with hcs; exact ⟨_, _, _, hcs⟩
      obtain ⟨an, nn, cn, rfl⟩ := hs1
      obtain ⟨ab, nb, cb, rfl⟩ := hs2
      obtain ⟨ns, q1, q2, q3, q4, q5, q6⟩ := rd_ints t1
      obtain ⟨bs, r1, r2, r3, r4, r5⟩ := rd_bytes t2
      exact ⟨x.toNat, an, nn, cn, ab, nb, cb, ns, bs, by rw [ea], x.toNat_lt, q2, q1, r2, r1, q5, q6, r4, r5, by omega, by omega⟩
set_option maxRecDepth 100000 in
theorem open_rep {r : Reach} {b0 : Nat} {v : Value} {d : DataW H} {p : List MemPlace}
    (hv : Value.okWide Try.prog w r b0 26 v) (h : DataW.Trod enc Try.prog w base spare held 26 v d p) :
    ∃ (k : Nat) (an : Option Addr) (nn cn : Nat) (ab : Option Addr) (nb cb : Nat) (ns : List Int) (bs : List UInt8), v = .agg #[.int .u8 (k : Int), .slice an nn cn, .slice ab nb cb] ∧ k < 256 ∧ Lies w an (IV ns) ∧ ns.length = nn ∧ BLies w ab bs ∧ bs.length = nb ∧ nn ≤ cn ∧ cn ≤ maxLen ∧ nb ≤ cb ∧ cb ≤ maxLen ∧ nn + 1 ≤ Rows.uptoBulk d ∧ nb + 1 ≤ Rows.uptoBulk d := by
  obtain ⟨cs, rfl, hs⟩ := okWide_struct Try.underlying26 hv
  have hs3 : cs.size = 3 := hs
  obtain ⟨fuel, hf⟩ := h
  have hf : DataW.trod enc Try.prog w base spare held fuel 26 cs.toList = some (d, p) := hf
  obtain ⟨k, an, nn, cn, ab, nb, cb, ns, bs, e, h⟩ := rd_rep (by simpa using hs3) hf
  refine ⟨k, an, nn, cn, ab, nb, cb, ns, bs, ?_, h⟩
  obtain ⟨cs⟩ := cs
  have e' : cs = _ := e
  rw [e']
end
end Go.Proofs.Ytkdmebcfedehiaa
/- octet.width at each instance: a loop of one round a byte. -/
namespace Go.Proofs.Ytkdmebcfedehiaa
open Go.RowKit

set_option maxRecDepth 100000 in
set_option maxHeartbeats 400000 in
theorem width8_any (w : World) : Calls Try.prog 75 #[] w fun e w' => e = .returned (.int .i64 1) ∧ w = w' := by
  go_enter Try.func75, Try.ntmps75
  go_wp2
  go_rounds 2
  go_ret
  exact ⟨rfl, rfl⟩

set_option maxRecDepth 100000 in
set_option maxHeartbeats 400000 in
theorem width32_any (w : World) : Calls Try.prog 49 #[] w fun e w' => e = .returned (.int .i64 4) ∧ w = w' := by
  go_enter Try.func49, Try.ntmps49
  go_wp2
  go_rounds 5
  go_ret
  exact ⟨rfl, rfl⟩

set_option maxRecDepth 100000 in
set_option maxHeartbeats 400000 in
theorem width64_any (w : World) : Calls Try.prog 59 #[] w fun e w' => e = .returned (.int .i64 8) ∧ w = w' := by
  go_enter Try.func59, Try.ntmps59
  go_wp2
  go_rounds 9
  go_ret
  exact ⟨rfl, rfl⟩

end Go.Proofs.Ytkdmebcfedehiaa
/- strongroomkit.markBytes, SameBytes. -/
namespace Go.Proofs.Ytkdmebcfedehiaa
open Go.RowKit

/-- the mark of place i of list k -/
def mrk (k i : Int) : UInt8 := UInt8.ofNat ((151 * k + 7 * i + 1) % 256).toNat
theorem mrk_toNat (k i : Int) : ((mrk k i).toNat : Int) = (151 * k + 7 * i + 1) % 256 := by
  unfold mrk
  rw [UInt8.toNat_ofNat']
  omega

set_option maxHeartbeats 400000 in
theorem mark_any (k i : Int) (w : World) (hk : 0 ≤ k ∧ k ≤ 1000000000) (hi : 0 ≤ i ∧ i ≤ 1000000000000) :
    Calls Try.prog 46 #[.int .i64 k, .int .i64 i] w fun e w' => e = .returned (.int .u8 ((mrk k i).toNat : Int)) ∧ w = w' := by
  obtain ⟨k1, k2⟩ := hk
  obtain ⟨i1, i2⟩ := hi
  rw [mrk_toNat]
  go_enter Try.func46, Try.ntmps46
  go_wp2
  go_ret
  exact ⟨rfl, rfl⟩

theorem ret_bool {a b : Bool} (h : a = b) : Ending.returned (.bool a) = .returned (.bool b) := by rw [h]

theorem take_step {l m : List UInt8} {k : Nat} (hl : k < l.length) (hm : k < m.length) (h : l.take k = m.take k) (e : l[k] = m[k]) : l.take (k + 1) = m.take (k + 1) := by
  rw [List.take_succ_eq_append_getElem hl, List.take_succ_eq_append_getElem hm, h, e]

set_option maxHeartbeats 400000 in
theorem same_any (a a' : Option Addr) (c c' : Nat) (la lb : List UInt8) (w : World) (ha : BLies w a la) (hb : BLies w a' lb) (hn : la.length ≤ maxLen) :
    Calls Try.prog 12 #[.slice a la.length c, .slice a' lb.length c'] w fun e w' => e = .returned (.bool (decide (la = lb))) ∧ ∃ n, w' = w.drewN n := by
  unfold maxLen at hn
  have HA : Hid (BLies w a la) := ha
  have HB : Hid (BLies w a' lb) := hb
  clear ha hb
  by_cases hl : la.length = lb.length
  · have hlb : ((la.length : Int) != (lb.length : Int)) = false := by simp [hl]
    have HL : Hid (la.length = lb.length) := hl
    clear hl
    go_enter Try.func12, Try.ntmps12
    go_wp2
    go_loopw [5] (fun i wr => ∃ k n : Nat, k ≤ la.length ∧ i = .int .i64 k ∧ wr = w.drewN n ∧ la.take k = lb.take k) (fun i _ => la.length - (intOf i).toNat)
    case atStart => exact ⟨0, 0, by omega, rfl, rfl, by simp⟩
    case round =>
      obtain ⟨k, n, hk, rfl, rfl, ht⟩ := hrel
      have HT : Hid (la.take k = lb.take k) := ht
      clear ht
      by_cases hlt : k < la.length
      · have hlt2 : k < lb.length := by have := HL.out; omega
        obtain ⟨b, off, rfl, hc⟩ := HA.out k hlt
        obtain ⟨b', off', rfl, hc'⟩ := HB.out k hlt2
        by_cases he : la[k] = lb[k]
        · have hbn : (((la[k]).toNat : Int) != ((lb[k]).toNat : Int)) = false := by simp [he]
          go_wp2
          go_quiet (fail)
          go_wp2
          go_roundw
          case rel => exact ⟨k + 1, n + nq, by omega, by go_num, by simp, take_step hlt hlt2 HT.out he⟩
          case measure => simp [intOf]; omega
        · have hbn : (((la[k]).toNat : Int) != ((lb[k]).toNat : Int)) = true := by
            rw [bne_iff_ne]
            intro h
            exact he (UInt8.toNat_inj.1 (by omega))
          go_wp2
          go_quiet (fail)
          go_wp2
          go_ret
          exact ⟨ret_bool (by rw [eq_comm, decide_eq_false_iff_not]; rintro rfl; exact he rfl), n + nq, by simp⟩
      · go_wp2
        go_ret
        exact ⟨ret_bool (by have h1 := HT.out; have h2 := HL.out; rw [eq_comm, decide_eq_true_iff]; rwa [List.take_of_length_le (by omega), List.take_of_length_le (by omega)] at h1), _, rfl⟩
  · have hlb : ((la.length : Int) != (lb.length : Int)) = true := by rw [bne_iff_ne]; omega
    go_enter Try.func12, Try.ntmps12
    go_wp2
    go_ret
    exact ⟨ret_bool (by rw [eq_comm, decide_eq_false_iff_not]; rintro rfl; exact hl rfl), 0, rfl⟩

theorem same_n (a a' : Option Addr) (c c' n n' : Nat) (la lb : List UInt8) (w : World) (ha : BLies w a la) (hb : BLies w a' lb) (hla : la.length = n) (hlb : lb.length = n') (hn : n ≤ maxLen) :
    Calls Try.prog 12 #[.slice a n c, .slice a' n' c'] w fun e w' => e = .returned (.bool (decide (la = lb))) ∧ ∃ n, w' = w.drewN n := by
  subst hla; subst hlb
  exact same_any a a' c c' la lb w ha hb hn
/-- two lists that are the same -/
theorem same_yes (a a' : Option Addr) (c c' n n' : Nat) (la : List UInt8) (w : World) (ha : BLies w a la) (hb : BLies w a' la) (hla : la.length = n) (hlb : la.length = n') (hn : n ≤ maxLen) :
    Calls Try.prog 12 #[.slice a n c, .slice a' n' c'] w fun e w' => e = .returned (.bool true) ∧ ∃ n, w' = w.drewN n :=
  (same_n a a' c c' n n' la la w ha hb hla hlb hn).mono fun e w' ⟨h1, h2⟩ => ⟨by rw [h1]; simp, h2⟩

end Go.Proofs.Ytkdmebcfedehiaa
/- strongroomkit.LentBytes: the list, and marks behind it, in memory of its own. -/
namespace Go.Proofs.Ytkdmebcfedehiaa
open Go.RowKit

/-- what LentBytes gives of a list: the list, and the marks behind it -/
def marks (n m : Nat) : List UInt8 := (List.range m).map fun (i : Nat) => mrk 0 ((n : Int) + (i : Int))
def lent (l : List UInt8) : List UInt8 := l ++ marks l.length 70
theorem marks_succ (n m : Nat) : marks n (m + 1) = marks n m ++ [mrk 0 ((n : Int) + (m : Int))] := by simp [marks, List.range_succ]
theorem marks_length (n m : Nat) : (marks n m).length = m := by simp [marks]
theorem lent_length (l : List UInt8) : (lent l).length = l.length + 70 := by simp [lent, marks_length]

/-- bytes that are owned -/
def BOwn (w : World) (base : Nat) (a : Option Addr) (n c : Nat) (l : List UInt8) : Prop := Own w base 5 1 a n c (l.map bval)

theorem BOwn.len {w : World} {base : Nat} {a : Option Addr} {n c : Nat} {l : List UInt8} (h : BOwn w base a n c l) : l.length = n := by
  have := h.1; simpa using this

theorem BOwn.cap {w : World} {base : Nat} {a : Option Addr} {n c : Nat} {l : List UInt8} (h : BOwn w base a n c l) : n ≤ c ∧ c ≤ maxLen := Own.cap h

theorem BOwn.lies {w : World} {base : Nat} {a : Option Addr} {n c : Nat} {l : List UInt8} (h : BOwn w base a n c l) : BLies w a l := by
  intro k hk
  obtain ⟨g, e, _, _, hc, _⟩ := Own.cell h k (by simpa using hk)
  exact ⟨g, 0, e, by rw [Nat.zero_add, hc]; simp [bval]⟩

theorem elB : El Try.prog 24 5 (.int .u8 0) 1 1 :=
  ⟨Try.underlying24, info_parts (by kernel_rfl), rfl, by decide⟩

theorem BLies.news {w : World} {b off : Nat} {l : List UInt8} (h : BLies w (some ⟨b, off, none⟩) l) : ∀ j u, (l.map bval)[j]? = some u → w.cell? ((⟨b, off, none⟩ : Addr).add j) = some u := by
  intro j u hu
  obtain ⟨hj, rfl⟩ := List.getElem?_eq_some_iff.1 hu
  obtain ⟨b', off', e, hc⟩ := h j (by simpa using hj)
  injection e with e; injection e with e1 e2
  subst e1; subst e2
  rw [Addr.add_lit, hc]
  simp [bval]
theorem BLies.addr {w : World} {a : Option Addr} {l : List UInt8} (h : BLies w a l) (hl : 0 < l.length) : ∃ b off, a = some ⟨b, off, none⟩ := by
  obtain ⟨b, off, e, _⟩ := h 0 hl
  exact ⟨b, off, e⟩
theorem bval_one (l : List UInt8) : ∀ u ∈ l.map bval, u.oneCell' = true := by
  intro u hu
  obtain ⟨x, _, rfl⟩ := List.mem_map.1 hu
  rfl

theorem map_take_succ {l : List UInt8} {k : Nat} (h : k < l.length) : (l.take (k + 1)).map bval = (l.take k).map bval ++ [.int .u8 ((l[k]).toNat : Int)] := by
  rw [List.take_succ_eq_append_getElem h, List.map_append]; rfl

set_option maxRecDepth 100000 in
set_option maxHeartbeats 1000000 in
theorem lent_any (a : Option Addr) (c : Nat) (l : List UInt8) (w : World) (ha : BLies w a l) (hn : l.length ≤ 4000000000) :
    Calls Try.prog 34 #[.slice a l.length c] w fun e w' => ∃ g cap, e = .returned (.slice (some ⟨g, 0, none⟩) (l.length + 70) cap) ∧ BOwn w' w.heap.size (some ⟨g, 0, none⟩) (l.length + 70) cap (lent l) ∧ w.grownBy w' none := by
  have HA : Hid (BLies w a l) := ha
  clear ha
  go_enter Try.func34, Try.ntmps34
  go_wp2
  go_loopw [3, 4] (fun v i wr => ∃ (k : Nat) (a' : Option Addr) (c' : Nat), k ≤ l.length ∧ i = .int .i64 k ∧ v = .slice a' k c' ∧ BOwn wr w.heap.size a' k c' (l.take k) ∧ w.grownBy wr none) (fun _ i _ => l.length - (intOf i).toNat)
  case atStart => exact ⟨0, none, 0, by omega, rfl, rfl, Own.nil _ _ _ _ _, World.grownBy.refl _ _⟩
  case round =>
    obtain ⟨k, a', c', hk, rfl, rfl, hown, hg⟩ := hrel
    by_cases hlt : k < l.length
    · obtain ⟨b, off, rfl, hc⟩ := HA.out k hlt
      have hc' : wr.cell? ⟨b, off + k, none⟩ = some (.int .u8 ((l[k]).toNat : Int)) := hg.cell hc (by simp)
      have hsz := hg.size
      go_wp2_with (at_builtin; refine wpList_push elB rfl (.tmp 12) (.tmp 17) rfl rfl hown (.int .u8 ((l[k]).toNat : Int)) rfl rfl (by unfold maxLen; omega) (by omega) hsz ?_; intro g cap w1 hown1 hgr)
      go_roundw
      case rel => exact ⟨k + 1, _, _, by omega, by go_num, rfl, by unfold BOwn; rw [map_take_succ hlt]; exact hown1, hgr.grew.grown hown hg (Nat.le_refl _)⟩
      case measure => simp [intOf]; omega
    · obtain rfl : k = l.length := by omega
      go_wp2
      go_loopw [3, 5] (fun v i wr => ∃ (k : Nat) (a' : Option Addr) (c' : Nat), k ≤ 70 ∧ i = .int .i64 k ∧ v = .slice a' (l.length + k) c' ∧ BOwn wr w.heap.size a' (l.length + k) c' (l ++ marks l.length k) ∧ w.grownBy wr none) (fun _ i _ => 70 - (intOf i).toNat)
      case atStart => exact ⟨0, _, _, by omega, rfl, rfl, by simpa [marks] using hown, hg⟩
      case round =>
        obtain ⟨k, a', c', hk, rfl, rfl, hown, hg⟩ := hrel
        have hsz := hg.size
        by_cases hlt : k < 70
        · go_wp2_with (first | (go_at_call 46; refine (mark_any _ _ _ (by omega) (by omega)).mono ?_; rintro e w' ⟨rfl, rfl⟩) | (at_builtin; refine wpList_push elB rfl (.tmp 23) (.tmp 29) rfl rfl hown (.int .u8 ((mrk 0 ((l.length : Int) + (k : Int))).toNat : Int)) rfl rfl (by unfold maxLen; omega) (by omega) hsz ?_; intro g cap w1 hown1 hgr))
          go_roundw
          case rel => exact ⟨k + 1, _, _, by omega, by go_num, rfl, by unfold BOwn; rw [marks_succ, ← List.append_assoc, List.map_append]; exact hown1, hgr.grew.grown hown hg (Nat.le_refl _)⟩
          case measure => simp [intOf]; omega
        · obtain rfl : k = 70 := by omega
          go_wp2
          go_ret
          obtain ⟨g, rfl, _⟩ := hown.block (by have := hown.2; omega)
          exact ⟨g, c', rfl, hown, hg⟩

theorem lent_n (a : Option Addr) (c n : Nat) (l : List UInt8) (w : World) (ha : BLies w a l) (hl : l.length = n) (hn : n ≤ 4000000000) :
    Calls Try.prog 34 #[.slice a n c] w fun e w' => ∃ g cap, e = .returned (.slice (some ⟨g, 0, none⟩) (n + 70) cap) ∧ BOwn w' w.heap.size (some ⟨g, 0, none⟩) (n + 70) cap (lent l) ∧ w.grownBy w' none := by
  subst hl
  exact lent_any a c l w ha hn

theorem lent_take (l : List UInt8) (n : Nat) (h : l.length = n) : (lent l).take n = l := by
  subst h; simp [lent]

end Go.Proofs.Ytkdmebcfedehiaa
/- octet.Big at each instance. -/
namespace Go.Proofs.Ytkdmebcfedehiaa
open Go.RowKit

/-- the k bytes of a number, the highest first -/
def bigL : Nat → Nat → List UInt8
  | 0, _ => []
  | k + 1, x => bigL k (x / 256) ++ [UInt8.ofNat x]
theorem bigL_length (k : Nat) : ∀ x, (bigL k x).length = k := by
  induction k with
  | zero => intro x; rfl
  | succ k ih => intro x; simp [bigL, ih]
theorem u8i (n : Nat) : ((UInt8.ofNat n).toNat : Int) = (n : Int) % 256 := by
  rw [UInt8.toNat_ofNat']; omega
theorem val_u8 {a b : Int} (h : a = b) : Value.int .u8 a = Value.int .u8 b := by rw [h]

theorem own_new (w : World) (l : List UInt8) (n : Nat) (hn : l.length = n) (hm : n ≤ maxLen) : BOwn (w.alloc (.cells (l.map bval).toArray 5)) w.heap.size (some ⟨w.heap.size, 0, none⟩) n n l := by
  subst hn
  exact ⟨by simp, .inr ⟨w.heap.size, _, rfl, Nat.le_refl _, heap_alloc_new w _, Nat.le_refl _, hm, by simp, by simp [List.take_of_length_le]⟩⟩

set_option maxRecDepth 100000 in
set_option maxHeartbeats 400000 in
theorem big32_any (x : Nat) (hx : x < 4294967296) (w : World) : Calls Try.prog 24 #[.int .u32 x] w fun e w' => e = .returned (.slice (some ⟨w.heap.size, 0, none⟩) 4 4) ∧ w' = w.alloc (.cells ((bigL 4 x).map bval).toArray 5) := by
  have hmk : ∀ w, (Instr.makeSlice 24 (.int .i64 4) (.int .i64 4)).run Try.prog w = .ok (.slice (some ⟨w.heap.size, 0, none⟩) 4 4) (w.alloc (.cells #[.int .u8 0, .int .u8 0, .int .u8 0, .int .u8 0] 5)) := fun _ => by kernel_rfl
  go_enter Try.func24, Try.ntmps24
  go_wp2_with (go_at_call 49; refine (width32_any _).mono ?_; rintro e w' ⟨rfl, rfl⟩)
  go_rounds 5
  go_ret
  refine ⟨rfl, ?_⟩
  refine congrArg (fun c : List Value => w.alloc (.cells c.toArray 5)) ?_
  simp only [bigL, List.nil_append, List.cons_append, List.map_cons, List.map_nil, bval, u8i]
  repeat (first | (refine congr (congrArg List.cons (val_u8 (by omega))) ?_) | rfl)

set_option maxRecDepth 100000 in
set_option maxHeartbeats 400000 in
theorem big64_any (x : Nat) (hx : x < 18446744073709551616) (w : World) : Calls Try.prog 33 #[.int .u64 x] w fun e w' => e = .returned (.slice (some ⟨w.heap.size, 0, none⟩) 8 8) ∧ w' = w.alloc (.cells ((bigL 8 x).map bval).toArray 5) := by
  have hmk : ∀ w, (Instr.makeSlice 24 (.int .i64 8) (.int .i64 8)).run Try.prog w = .ok (.slice (some ⟨w.heap.size, 0, none⟩) 8 8) (w.alloc (.cells #[.int .u8 0, .int .u8 0, .int .u8 0, .int .u8 0, .int .u8 0, .int .u8 0, .int .u8 0, .int .u8 0] 5)) := fun _ => by kernel_rfl
  go_enter Try.func33, Try.ntmps33
  go_wp2_with (go_at_call 59; refine (width64_any _).mono ?_; rintro e w' ⟨rfl, rfl⟩)
  go_rounds 9
  go_ret
  refine ⟨rfl, ?_⟩
  refine congrArg (fun c : List Value => w.alloc (.cells c.toArray 5)) ?_
  simp only [bigL, List.nil_append, List.cons_append, List.map_cons, List.map_nil, bval, u8i]
  repeat (first | (refine congr (congrArg List.cons (val_u8 (by omega))) ?_) | rfl)

end Go.Proofs.Ytkdmebcfedehiaa
/- octet.Small at each instance. -/
namespace Go.Proofs.Ytkdmebcfedehiaa
open Go.RowKit

/-- the number of which these are the bytes -/
def smallL (l : List UInt8) : Nat := l.foldl (fun x b => x * 256 + b.toNat) 0
theorem smallL_snoc (l : List UInt8) (b : UInt8) : smallL (l ++ [b]) = smallL l * 256 + b.toNat := by simp [smallL]
theorem smallL_lt : ∀ (n : Nat) (l : List UInt8), l.length = n → smallL l < 256 ^ n := by
  intro n
  induction n with
  | zero => intro l hl; simp [List.eq_nil_of_length_eq_zero hl, smallL]
  | succ n ih =>
    intro l hl
    obtain ⟨m, b, rfl⟩ : ∃ m b, l = m ++ [b] := ⟨l.dropLast, l.getLast (by intro h; simp [h] at hl), (List.dropLast_concat_getLast _).symm⟩
    rw [smallL_snoc]
    have := ih m (by simpa using hl)
    have := b.toNat_lt
    rw [Nat.pow_succ]
    omega
theorem smallL_take {l : List UInt8} {k : Nat} (h : k < l.length) : smallL (l.take (k + 1)) = smallL (l.take k) * 256 + (l[k]).toNat := by
  rw [List.take_succ_eq_append_getElem h, smallL_snoc]
theorem smallL_le {l : List UInt8} {k : Nat} (h : k ≤ l.length) (h7 : k ≤ 7) : smallL (l.take k) ≤ 72057594037927935 := by
  have h1 := smallL_lt k (l.take k) (by simp; omega)
  have h2 : 256 ^ k ≤ 256 ^ 7 := Nat.pow_le_pow_right (by omega) h7
  omega

theorem or_byte (x c : Nat) (hx : x ≤ 72057594037927935) (hc : c < 256) : bits .or .u64 ((x : Int) * 256) (c : Int) = ((x * 256 + c : Nat) : Int) := by
  have e1 : ((x : Int) * 256) = ((x * 256 : Nat) : Int) := by simp
  have e2 : x * 256 + c = x * 256 ||| c := by
    have := Nat.shiftLeft_add_eq_or_of_lt (i := 8) (b := c) (by omega) x
    rwa [Nat.shiftLeft_eq] at this
  rw [e1, bits_or_u64_nat _ _ (by omega) (by omega), e2]

set_option maxRecDepth 100000 in
set_option maxHeartbeats 400000 in
theorem small8_any (a : Option Addr) (c n : Nat) (l : List UInt8) (w : World) (ha : BLies w a l) (hn : l.length = n) (hm : n ≤ maxLen) :
    Calls Try.prog 76 #[.slice a n c] w fun e w' => e = .returned (if n < 1 then .tuple #[.int .u8 0, .int .i64 10] else if 1 < n then .tuple #[.int .u8 0, .int .i64 11] else .tuple #[.int .u8 (smallL l), .int .i64 0]) ∧ w = w' := by
  unfold maxLen at hm
  by_cases h1 : n < 1
  · have e : ∀ x y : Value, (if n < 1 then x else y) = x := fun x y => by rw [if_pos h1]
    rw [e]
    clear e
    go_enter Try.func76, Try.ntmps76
    go_wp2_with (go_at_call 75; refine (width8_any _).mono ?_; rintro e w' ⟨rfl, rfl⟩)
    go_ret2
    exact ⟨rfl, rfl⟩
  by_cases h2 : 1 < n
  · have e : ∀ x y z : Value, (if n < 1 then x else if 1 < n then y else z) = y := fun x y z => by rw [if_neg h1, if_pos h2]
    rw [e]
    clear e
    go_enter Try.func76, Try.ntmps76
    go_wp2_with (go_at_call 75; refine (width8_any _).mono ?_; rintro e w' ⟨rfl, rfl⟩)
    go_ret2
    exact ⟨rfl, rfl⟩
  have e : ∀ x y z : Value, (if n < 1 then x else if 1 < n then y else z) = z := fun x y z => by rw [if_neg h1, if_neg h2]
  rw [e]
  clear e
  obtain rfl : n = 1 := by omega
  clear h1 h2
  have HA : Hid (BLies w a l) := ha
  have HN := Lib.hid hn
  have hm0 : smallL l < 256 := by have := smallL_lt _ l hn; simpa using this
  have HM := Lib.hid hm0
  clear hm0
  clear ha hn hm
  go_enter Try.func76, Try.ntmps76
  go_wp2_with (go_at_call 75; refine (width8_any _).mono ?_; rintro e w' ⟨rfl, rfl⟩)
  go_loop [5, 21] (fun x i => ∃ k : Nat, k ≤ 1 ∧ i = .int .i64 k ∧ x = .int .u64 (smallL (l.take k))) (fun _ i => 1 - (intOf i).toNat)
  case atStart => exact ⟨0, by omega, rfl, rfl⟩
  case round =>
    obtain ⟨k, hk, rfl, rfl⟩ := hrel
    by_cases hlt : k < 1
    · obtain ⟨b, off, rfl, hc⟩ := HA.out k (by rw [HN.out]; exact hlt)
      have hle := smallL_le (l := l) (k := k) (by rw [HN.out]; omega) (by omega)
      have hb := (l[k]'(by rw [HN.out]; exact hlt)).toNat_lt
      go_wp2
      go_round
      case rel => exact ⟨k + 1, by omega, by go_num, by rw [or_byte _ _ hle hb, smallL_take (by rw [HN.out]; exact hlt)]⟩
      case measure => simp [intOf]; omega
    · obtain rfl : k = 1 := by omega
      have hle := HM.out
      have e0 : l.take 1 = l := List.take_of_length_le (by rw [HN.out]; omega)
      rw [e0]
      clear e0
      go_wp2
      go_ret2
      exact ⟨rfl, rfl⟩

set_option maxRecDepth 100000 in
set_option maxHeartbeats 400000 in
theorem small32_any (a : Option Addr) (c n : Nat) (l : List UInt8) (w : World) (ha : BLies w a l) (hn : l.length = n) (hm : n ≤ maxLen) :
    Calls Try.prog 27 #[.slice a n c] w fun e w' => e = .returned (if n < 4 then .tuple #[.int .u32 0, .int .i64 10] else if 4 < n then .tuple #[.int .u32 0, .int .i64 11] else .tuple #[.int .u32 (smallL l), .int .i64 0]) ∧ w = w' := by
  unfold maxLen at hm
  by_cases h1 : n < 4
  · have e : ∀ x y : Value, (if n < 4 then x else y) = x := fun x y => by rw [if_pos h1]
    rw [e]
    clear e
    go_enter Try.func27, Try.ntmps27
    go_wp2_with (go_at_call 49; refine (width32_any _).mono ?_; rintro e w' ⟨rfl, rfl⟩)
    go_ret2
    exact ⟨rfl, rfl⟩
  by_cases h2 : 4 < n
  · have e : ∀ x y z : Value, (if n < 4 then x else if 4 < n then y else z) = y := fun x y z => by rw [if_neg h1, if_pos h2]
    rw [e]
    clear e
    go_enter Try.func27, Try.ntmps27
    go_wp2_with (go_at_call 49; refine (width32_any _).mono ?_; rintro e w' ⟨rfl, rfl⟩)
    go_ret2
    exact ⟨rfl, rfl⟩
  have e : ∀ x y z : Value, (if n < 4 then x else if 4 < n then y else z) = z := fun x y z => by rw [if_neg h1, if_neg h2]
  rw [e]
  clear e
  obtain rfl : n = 4 := by omega
  clear h1 h2
  have HA : Hid (BLies w a l) := ha
  have HN := Lib.hid hn
  have hm0 : smallL l < 4294967296 := by have := smallL_lt _ l hn; simpa using this
  have HM := Lib.hid hm0
  clear hm0
  clear ha hn hm
  go_enter Try.func27, Try.ntmps27
  go_wp2_with (go_at_call 49; refine (width32_any _).mono ?_; rintro e w' ⟨rfl, rfl⟩)
  go_loop [5, 21] (fun x i => ∃ k : Nat, k ≤ 4 ∧ i = .int .i64 k ∧ x = .int .u64 (smallL (l.take k))) (fun _ i => 4 - (intOf i).toNat)
  case atStart => exact ⟨0, by omega, rfl, rfl⟩
  case round =>
    obtain ⟨k, hk, rfl, rfl⟩ := hrel
    by_cases hlt : k < 4
    · obtain ⟨b, off, rfl, hc⟩ := HA.out k (by rw [HN.out]; exact hlt)
      have hle := smallL_le (l := l) (k := k) (by rw [HN.out]; omega) (by omega)
      have hb := (l[k]'(by rw [HN.out]; exact hlt)).toNat_lt
      go_wp2
      go_round
      case rel => exact ⟨k + 1, by omega, by go_num, by rw [or_byte _ _ hle hb, smallL_take (by rw [HN.out]; exact hlt)]⟩
      case measure => simp [intOf]; omega
    · obtain rfl : k = 4 := by omega
      have hle := HM.out
      have e0 : l.take 4 = l := List.take_of_length_le (by rw [HN.out]; omega)
      rw [e0]
      clear e0
      go_wp2
      go_ret2
      exact ⟨rfl, rfl⟩

set_option maxRecDepth 100000 in
set_option maxHeartbeats 400000 in
theorem small64_any (a : Option Addr) (c n : Nat) (l : List UInt8) (w : World) (ha : BLies w a l) (hn : l.length = n) (hm : n ≤ maxLen) :
    Calls Try.prog 77 #[.slice a n c] w fun e w' => e = .returned (if n < 8 then .tuple #[.int .u64 0, .int .i64 10] else if 8 < n then .tuple #[.int .u64 0, .int .i64 11] else .tuple #[.int .u64 (smallL l), .int .i64 0]) ∧ w = w' := by
  unfold maxLen at hm
  by_cases h1 : n < 8
  · have e : ∀ x y : Value, (if n < 8 then x else y) = x := fun x y => by rw [if_pos h1]
    rw [e]
    clear e
    go_enter Try.func77, Try.ntmps77
    go_wp2_with (go_at_call 59; refine (width64_any _).mono ?_; rintro e w' ⟨rfl, rfl⟩)
    go_ret2
    exact ⟨rfl, rfl⟩
  by_cases h2 : 8 < n
  · have e : ∀ x y z : Value, (if n < 8 then x else if 8 < n then y else z) = y := fun x y z => by rw [if_neg h1, if_pos h2]
    rw [e]
    clear e
    go_enter Try.func77, Try.ntmps77
    go_wp2_with (go_at_call 59; refine (width64_any _).mono ?_; rintro e w' ⟨rfl, rfl⟩)
    go_ret2
    exact ⟨rfl, rfl⟩
  have e : ∀ x y z : Value, (if n < 8 then x else if 8 < n then y else z) = z := fun x y z => by rw [if_neg h1, if_neg h2]
  rw [e]
  clear e
  obtain rfl : n = 8 := by omega
  clear h1 h2
  have HA : Hid (BLies w a l) := ha
  have HN := Lib.hid hn
  have hm0 : smallL l < 18446744073709551616 := by have := smallL_lt _ l hn; simpa using this
  have HM := Lib.hid hm0
  clear hm0
  clear ha hn hm
  go_enter Try.func77, Try.ntmps77
  go_wp2_with (go_at_call 59; refine (width64_any _).mono ?_; rintro e w' ⟨rfl, rfl⟩)
  go_loop [5, 21] (fun x i => ∃ k : Nat, k ≤ 8 ∧ i = .int .i64 k ∧ x = .int .u64 (smallL (l.take k))) (fun _ i => 8 - (intOf i).toNat)
  case atStart => exact ⟨0, by omega, rfl, rfl⟩
  case round =>
    obtain ⟨k, hk, rfl, rfl⟩ := hrel
    by_cases hlt : k < 8
    · obtain ⟨b, off, rfl, hc⟩ := HA.out k (by rw [HN.out]; exact hlt)
      have hle := smallL_le (l := l) (k := k) (by rw [HN.out]; omega) (by omega)
      have hb := (l[k]'(by rw [HN.out]; exact hlt)).toNat_lt
      go_wp2
      go_round
      case rel => exact ⟨k + 1, by omega, by go_num, by rw [or_byte _ _ hle hb, smallL_take (by rw [HN.out]; exact hlt)]⟩
      case measure => simp [intOf]; omega
    · obtain rfl : k = 8 := by omega
      have hle := HM.out
      have e0 : l.take 8 = l := List.take_of_length_le (by rw [HN.out]; omega)
      rw [e0]
      clear e0
      go_wp2
      go_ret2
      exact ⟨rfl, rfl⟩

end Go.Proofs.Ytkdmebcfedehiaa
/- Plain Lean: numbers there and back; frames there and back; the order of lists of bytes. -/
namespace Go.Proofs.Ytkdmebcfedehiaa
open Go.RowKit

theorem small_big : ∀ (k x : Nat), smallL (bigL k x) = x % 256 ^ k
  | 0, x => by simp [bigL, smallL, Nat.mod_one]
  | k + 1, x => by
    rw [bigL, smallL_snoc, small_big k, UInt8.toNat_ofNat']
    have e : x % 256 ^ (k + 1) = x % 256 + 256 * (x / 256 % 256 ^ k) := by rw [Nat.pow_succ, Nat.mul_comm (256 ^ k) 256, Nat.mod_mul]
    rw [e]
    generalize x / 256 % 256 ^ k = y
    omega
theorem big_small : ∀ (k : Nat) (l : List UInt8), l.length = k → bigL k (smallL l) = l
  | 0, l, h => by rw [List.eq_nil_of_length_eq_zero h]; rfl
  | k + 1, l, h => by
    have hne : l ≠ [] := fun e => by rw [e] at h; cases h
    have hl := List.dropLast_concat_getLast hne
    have hlen : l.dropLast.length = k := by rw [List.length_dropLast]; omega
    have ih := big_small k _ hlen
    generalize l.dropLast = a at hl hlen ih
    generalize l.getLast hne = b at hl
    subst hl
    rw [smallL_snoc, bigL]
    have hb := b.toNat_lt
    have e1 : (smallL a * 256 + b.toNat) / 256 = smallL a := by omega
    rw [e1, ih]
    congr 2
    apply UInt8.toNat_inj.1
    rw [UInt8.toNat_ofNat']
    omega
theorem small_cons (x : UInt8) (t : List UInt8) : smallL (x :: t) = x.toNat * 256 ^ t.length + smallL t := by
  have go : ∀ (t : List UInt8) (a : Nat), t.foldl (fun x b => x * 256 + b.toNat) a = a * 256 ^ t.length + t.foldl (fun x b => x * 256 + b.toNat) 0 := by
    intro t
    induction t with
    | nil => intro a; simp
    | cons y t ih =>
      intro a
      simp only [List.foldl_cons, List.length_cons]
      rw [ih (a * 256 + y.toNat), ih (0 * 256 + y.toNat), Nat.pow_succ, Nat.add_mul, Nat.add_mul]
      simp only [Nat.zero_mul, Nat.zero_add]
      rw [Nat.mul_comm (256 ^ t.length) 256, Nat.mul_assoc, Nat.add_assoc]
  show (x :: t).foldl _ 0 = _
  rw [List.foldl_cons, go]
  simp [smallL]

/-- one list ahead of another, byte by byte -/
def lessL : List UInt8 → List UInt8 → Bool
  | _, [] => false
  | [], _ :: _ => true
  | x :: s, y :: t => if x = y then lessL s t else x.toNat < y.toNat
theorem lessL_refl : ∀ l, lessL l l = false
  | [] => rfl
  | x :: t => by rw [lessL, if_pos rfl]; exact lessL_refl t
theorem lessL_small : ∀ (a b : List UInt8), a.length = b.length → smallL a < smallL b → lessL a b = true
  | [], [], _, h => by simp at h
  | [], _ :: _, h, _ => by cases h
  | _ :: _, [], h, _ => by cases h
  | x :: s, y :: t, hl, h => by
    have hl' : s.length = t.length := by simpa using hl
    rw [small_cons, small_cons, hl'] at h
    rw [lessL]
    by_cases e : x = y
    · subst e
      rw [if_pos rfl]
      exact lessL_small s t hl' (by omega)
    · rw [if_neg e]
      have hs := smallL_lt s.length s rfl
      have ht := smallL_lt t.length t rfl
      rw [hl'] at hs
      have hne : x.toNat ≠ y.toNat := fun h => e (UInt8.toNat_inj.1 h)
      have : ¬ y.toNat < x.toNat := fun hlt => by
        have h1 : (y.toNat + 1) * 256 ^ t.length ≤ x.toNat * 256 ^ t.length := Nat.mul_le_mul_right _ hlt
        rw [Nat.add_mul, Nat.one_mul] at h1
        omega
      simp
      omega

/-- the frames of a row of lists -/
def fr : List (List UInt8) → List UInt8
  | [] => []
  | p :: ps => bigL 8 p.length ++ (p ++ fr ps)
theorem fr_snoc (ps : List (List UInt8)) (p : List UInt8) : fr (ps ++ [p]) = fr ps ++ (bigL 8 p.length ++ p) := by
  induction ps with
  | nil => simp [fr]
  | cons q ps ih => simp [fr, ih]
theorem fr_length (ps : List (List UInt8)) : (fr ps).length = 8 * ps.length + ps.flatten.length := by
  induction ps with
  | nil => rfl
  | cons p ps ih => simp only [fr, List.length_append, bigL_length, ih, List.length_cons, List.flatten_cons]; omega
/-- the row of which these are the frames -/
def unf (l : List UInt8) : Option (List (List UInt8)) :=
  if h0 : l = [] then some []
  else if l.length < 8 then none
  else if l.length - 8 < smallL (l.take 8) then none
  else (unf ((l.drop 8).drop (smallL (l.take 8)))).map ((l.drop 8).take (smallL (l.take 8)) :: ·)
termination_by l.length
decreasing_by
  have := List.length_pos_iff.2 h0
  simp only [List.length_drop]
  omega
theorem unf_nil : unf [] = some [] := by rw [unf]; simp
theorem unf_short {l : List UInt8} (h0 : l ≠ []) (h : l.length < 8) : unf l = none := by rw [unf]; simp [h0, h]
theorem unf_long {l : List UInt8} (h8 : 8 ≤ l.length) (h : l.length - 8 < smallL (l.take 8)) : unf l = none := by
  have h0 : l ≠ [] := fun e => by rw [e] at h8; simp at h8
  rw [unf, dif_neg h0, if_neg (by omega), if_pos h]
theorem unf_step {l : List UInt8} (h8 : 8 ≤ l.length) (h : ¬ l.length - 8 < smallL (l.take 8)) : unf l = (unf ((l.drop 8).drop (smallL (l.take 8)))).map ((l.drop 8).take (smallL (l.take 8)) :: ·) := by
  have h0 : l ≠ [] := fun e => by rw [e] at h8; simp at h8
  rw [unf, dif_neg h0, if_neg (by omega), if_neg h]
theorem unf_fr : ∀ (ps : List (List UInt8)), (∀ p ∈ ps, p.length < 18446744073709551616) → unf (fr ps) = some ps
  | [], _ => unf_nil
  | p :: ps, h => by
    have hp := h p (by simp)
    have ih := unf_fr ps (fun q hq => h q (by simp [hq]))
    have hl : (fr (p :: ps)).length = 8 + (p.length + (fr ps).length) := by simp [fr, bigL_length]
    have ht : (fr (p :: ps)).take 8 = bigL 8 p.length := by rw [fr, List.take_left' (bigL_length 8 _)]
    have hd : (fr (p :: ps)).drop 8 = p ++ fr ps := by rw [fr, List.drop_left' (bigL_length 8 _)]
    have hs : smallL (bigL 8 p.length) = p.length := by rw [small_big]; exact Nat.mod_eq_of_lt (by simpa using hp)
    rw [unf_step (by omega) (by rw [ht, hs, hl]; omega), ht, hd, hs, List.drop_left' rfl, List.take_left' rfl, ih]
    rfl
theorem fr_unf : ∀ (N : Nat) (l : List UInt8) (ps : List (List UInt8)), l.length ≤ N → unf l = some ps → fr ps = l := by
  intro N
  induction N with
  | zero =>
    intro l ps h hu
    obtain rfl : l = [] := List.eq_nil_of_length_eq_zero (by omega)
    rw [unf_nil] at hu
    injection hu with hu
    subst hu
    rfl
  | succ N ih =>
    intro l ps h hu
    by_cases h0 : l = []
    · subst h0
      rw [unf_nil] at hu
      injection hu with hu
      subst hu
      rfl
    · by_cases h8 : l.length < 8
      · rw [unf_short h0 h8] at hu; cases hu
      · by_cases hl : l.length - 8 < smallL (l.take 8)
        · rw [unf_long (by omega) hl] at hu; cases hu
        · rw [unf_step (by omega) hl] at hu
          cases hr : unf ((l.drop 8).drop (smallL (l.take 8))) with
          | none => rw [hr] at hu; cases hu
          | some qs =>
            rw [hr] at hu
            injection hu with hu
            subst hu
            have h1 := ih _ qs (by simp only [List.length_drop]; omega) hr
            have hlen : ((l.drop 8).take (smallL (l.take 8))).length = smallL (l.take 8) := by simp only [List.length_take, List.length_drop]; omega
            rw [fr, h1, hlen, big_small 8 _ (by rw [List.length_take]; omega), List.take_append_drop, List.take_append_drop]
theorem fr_inj {ps qs : List (List UInt8)} (hp : ∀ p ∈ ps, p.length < 18446744073709551616) (hq : ∀ p ∈ qs, p.length < 18446744073709551616) (h : fr ps = fr qs) : ps = qs := by
  have h1 := unf_fr ps hp
  rw [h, unf_fr qs hq] at h1
  injection h1 with h1
  exact h1.symm
theorem unf_flat {l : List UInt8} {ps : List (List UInt8)} (h : unf l = some ps) : 8 * ps.length + ps.flatten.length = l.length := by
  rw [← fr_length, fr_unf _ l ps (Nat.le_refl _) h]

end Go.Proofs.Ytkdmebcfedehiaa
/- Plain Lean: replies and requests as bytes, and back: none of it speaks of the program. -/
namespace Go.Proofs.Ytkdmebcfedehiaa
open Go.RowKit

/-- a reply -/
structure Rp where
  kind : Nat
  nums : List Int
  bytes : List UInt8
def noRp : Rp := ⟨0, [], []⟩
/-- numbers of shares that rise -/
def incr : Int → List Int → Bool
  | _, [] => true
  | lo, n :: r => decide (lo < n) && (decide (n < 255) && incr n r)
def mayR (r : Rp) : Bool :=
  if r.kind ≠ 1 ∧ r.nums ≠ [] ∨ r.kind ≠ 5 ∧ r.bytes ≠ [] then false
  else if r.kind = 1 then incr (-1) r.nums
  else if r.kind = 5 then decide (1 ≤ r.bytes.length) && decide (r.bytes.length ≤ 131072)
  else decide (1 ≤ r.kind) && decide (r.kind ≤ 7)
def numB (n : Int) : UInt8 := UInt8.ofNat n.toNat
def encR (r : Rp) : List UInt8 :=
  UInt8.ofNat r.kind :: (if r.kind = 1 then UInt8.ofNat r.nums.length :: r.nums.map numB else if r.kind = 5 then bigL 4 r.bytes.length ++ r.bytes else [])
/-- may the byte at a place be a number of a share? -/
def okN (t : List UInt8) (i : Nat) : Bool := decide (t.getD i 0 ≠ 255) && (decide (i = 0) || decide ((t.getD (i - 1) 0).toNat < (t.getD i 0).toNat))
/-- the first place of a fault -/
def firstBad (t : List UInt8) : Nat := (List.range t.length).findIdx (fun i => !okN t i)
def byN (x : UInt8) : Int := (x.toNat : Int)
/-- the number of n bytes at a place -/
def getN (b : List UInt8) (p n : Nat) : Nat := smallL ((b.drop p).take n)
/-- the reply of bytes; else the place of the first fault -/
def decR (b : List UInt8) : Except Nat Rp :=
  if b = [] ∨ (b.getD 0 0).toNat < 1 ∨ 7 < (b.getD 0 0).toNat then .error 0
  else if (b.getD 0 0).toNat = 1 then
    if b.length < 2 then .error b.length
    else if firstBad ((b.drop 2).take (b.getD 1 0).toNat) < ((b.drop 2).take (b.getD 1 0).toNat).length then .error (2 + firstBad ((b.drop 2).take (b.getD 1 0).toNat))
    else if b.length ≠ 2 + (b.getD 1 0).toNat then .error (min b.length (2 + (b.getD 1 0).toNat))
    else .ok ⟨1, (b.drop 2).map byN, []⟩
  else if (b.getD 0 0).toNat = 5 then
    if b.length < 5 then .error b.length
    else if getN b 1 4 < 1 ∨ 131072 < getN b 1 4 then .error 1
    else if b.length ≠ 5 + getN b 1 4 then .error (min b.length (5 + getN b 1 4))
    else .ok ⟨5, [], b.drop 5⟩
  else if b.length ≠ 1 then .error 1
  else .ok ⟨(b.getD 0 0).toNat, [], []⟩

theorem firstBad_le (t : List UInt8) : firstBad t ≤ t.length := by
  unfold firstBad
  have := List.findIdx_le_length (p := fun i => !okN t i) (xs := List.range t.length)
  rwa [List.length_range] at this
theorem firstBad_at {t : List UInt8} {i : Nat} (hi : i < t.length) (h1 : ∀ j, j < i → okN t j = true) (h2 : okN t i = false) : firstBad t = i := by
  unfold firstBad
  rw [List.findIdx_eq (by rw [List.length_range]; exact hi)]
  simp only [List.getElem_range, h2, Bool.not_false, true_and]
  intro j hj
  rw [h1 j hj]; rfl
theorem firstBad_none {t : List UInt8} (h : ∀ j, j < t.length → okN t j = true) : firstBad t = t.length := by
  unfold firstBad
  rw [List.findIdx_eq_length_of_false, List.length_range]
  intro x hx
  rw [h x (List.mem_range.1 hx)]; rfl
theorem firstBad_ok {t : List UInt8} (h : firstBad t = t.length) : ∀ j, j < t.length → okN t j = true := by
  intro j hj
  have := List.not_of_lt_findIdx (p := fun i => !okN t i) (xs := List.range t.length) (i := j) (show j < firstBad t by omega)
  simpa using this

theorem incr_ok : ∀ (t : List UInt8) (lo : Int), incr lo (t.map byN) = true ↔ (∀ j, j < t.length → (t.getD j 0) ≠ 255 ∧ (j = 0 → lo < byN (t.getD 0 0)) ∧ (0 < j → (t.getD (j - 1) 0).toNat < (t.getD j 0).toNat))
  | [], lo => by simp [incr]
  | x :: r, lo => by
    have h255 : ¬ x = 255 ↔ byN x < 255 := by
      unfold byN
      have h1 : x = 255 ↔ x.toNat = 255 := by rw [← UInt8.toNat_inj]; rfl
      rw [h1]
      have := x.toNat_lt
      omega
    rw [List.map_cons, incr, Bool.and_eq_true, Bool.and_eq_true, decide_eq_true_eq, decide_eq_true_eq, incr_ok r]
    constructor
    · rintro ⟨h1, h2, h3⟩ j hj
      match j with
      | 0 => exact ⟨h255.2 h2, fun _ => h1, fun h => absurd h (by omega)⟩
      | j + 1 =>
        have hjr : j < r.length := by simpa using hj
        obtain ⟨k1, k2, k3⟩ := h3 j hjr
        refine ⟨by simpa using k1, fun h => absurd h (by omega), fun _ => ?_⟩
        match j, k2, k3 with
        | 0, k2, _ => have := k2 rfl; unfold byN at this; simp; simp at this; omega
        | j + 1, _, k3 => have := k3 (by omega); simpa using this
    · intro h
      have h0 := h 0 (by simp)
      refine ⟨h0.2.1 rfl, h255.1 h0.1, fun j hj => ?_⟩
      have hj1 := h (j + 1) (by simpa using hj)
      refine ⟨by simpa using hj1.1, fun hj0 => ?_, fun hj0 => ?_⟩
      · subst hj0
        have := hj1.2.2 (by omega)
        simp at this
        unfold byN
        simp
        omega
      · have := hj1.2.2 (by omega)
        obtain ⟨m, rfl⟩ : ∃ m, j = m + 1 := ⟨j - 1, by omega⟩
        simpa using this
theorem incr_good (t : List UInt8) : incr (-1) (t.map byN) = true ↔ firstBad t = t.length := by
  rw [incr_ok]
  constructor
  · intro h
    refine firstBad_none fun j hj => ?_
    obtain ⟨h1, _, h3⟩ := h j hj
    unfold okN
    rw [Bool.and_eq_true, Bool.or_eq_true, decide_eq_true_eq, decide_eq_true_eq, decide_eq_true_eq]
    exact ⟨h1, by rcases Nat.eq_zero_or_pos j with h | h; exact .inl h; exact .inr (h3 h)⟩
  · intro h j hj
    have := firstBad_ok h j hj
    unfold okN at this
    rw [Bool.and_eq_true, Bool.or_eq_true, decide_eq_true_eq, decide_eq_true_eq, decide_eq_true_eq] at this
    refine ⟨this.1, fun _ => by unfold byN; omega, fun h0 => ?_⟩
    rcases this.2 with h | h
    · omega
    · exact h
theorem incr_bound : ∀ (ns : List Int) (lo : Int), incr lo ns = true → ∀ n ∈ ns, lo < n ∧ n < 255
  | [], _, _, n, hn => by cases hn
  | x :: r, lo, h, n, hn => by
    rw [incr, Bool.and_eq_true, Bool.and_eq_true, decide_eq_true_eq, decide_eq_true_eq] at h
    rcases List.mem_cons.1 hn with rfl | hn
    · exact ⟨h.1, h.2.1⟩
    · have := incr_bound r x h.2.2 n hn
      omega
theorem incr_len : ∀ (ns : List Int) (lo : Int), incr lo ns = true → lo < 255 → (ns.length : Int) ≤ 254 - lo
  | [], lo, _, hlo => by simp; omega
  | x :: r, lo, h, hlo => by
    rw [incr, Bool.and_eq_true, Bool.and_eq_true, decide_eq_true_eq, decide_eq_true_eq] at h
    have := incr_len r x h.2.2 h.2.1
    simp only [List.length_cons]
    omega
theorem byN_numB {n : Int} (h : 0 ≤ n) (h2 : n < 256) : byN (numB n) = n := by
  unfold byN numB
  rw [UInt8.toNat_ofNat']
  omega
theorem numB_byN (x : UInt8) : numB (byN x) = x := by
  unfold byN numB
  apply UInt8.toNat_inj.1
  rw [UInt8.toNat_ofNat']
  have := x.toNat_lt
  omega
theorem map_numB : ∀ (ns : List Int) (lo : Int), -1 ≤ lo → incr lo ns = true → (ns.map numB).map byN = ns := by
  intro ns lo hlo h
  rw [List.map_map]
  conv => rhs; rw [← List.map_id ns]
  refine List.map_congr_left fun n hn => ?_
  have := incr_bound ns lo h n hn
  exact byN_numB (by omega) (by omega)
theorem map_byN (t : List UInt8) : (t.map byN).map numB = t := by
  rw [List.map_map]
  conv => rhs; rw [← List.map_id t]
  exact List.map_congr_left fun x _ => numB_byN x
theorem getN_lt (b : List UInt8) (p : Nat) : getN b p 4 < 4294967296 := by
  unfold getN
  have h := smallL_lt _ ((b.drop p).take 4) rfl
  have h2 : 256 ^ ((b.drop p).take 4).length ≤ 256 ^ 4 := Nat.pow_le_pow_right (by omega) (by rw [List.length_take]; omega)
  omega
theorem ofNat_byte (k : Nat) (h : k < 256) : (UInt8.ofNat k).toNat = k := by
  rw [UInt8.toNat_ofNat']; omega

/-- replies come back from their bytes -/
theorem dec_enc (r : Rp) (h : mayR r = true) : decR (encR r) = .ok r := by
  obtain ⟨k, ns, bs⟩ := r
  unfold mayR at h
  simp only at h
  by_cases hx : (k ≠ 1 ∧ ns ≠ [] ∨ k ≠ 5 ∧ bs ≠ [])
  · rw [if_pos hx] at h; cases h
  rw [if_neg hx] at h
  have hns : k ≠ 1 → ns = [] := fun h1 => by
    rcases Classical.em (ns = []) with h2 | h2
    · exact h2
    · exact absurd (.inl ⟨h1, h2⟩) hx
  have hbs : k ≠ 5 → bs = [] := fun h1 => by
    rcases Classical.em (bs = []) with h2 | h2
    · exact h2
    · exact absurd (.inr ⟨h1, h2⟩) hx
  by_cases h1 : k = 1
  · subst h1
    rw [if_pos rfl] at h
    have hb := hbs (by omega)
    subst hb
    have hl := incr_len ns (-1) h (by omega)
    have hn : (UInt8.ofNat ns.length).toNat = ns.length := ofNat_byte _ (by omega)
    have hm := map_numB ns (-1) (by omega) h
    have hg : firstBad (ns.map numB) = (ns.map numB).length := (incr_good _).1 (by rw [hm]; exact h)
    have e0 : encR ⟨1, ns, []⟩ = 1 :: UInt8.ofNat ns.length :: ns.map numB := rfl
    rw [e0]
    unfold decR
    rw [if_neg (by simp)]
    rw [if_pos (by simp)]
    rw [if_neg (by simp)]
    simp only [List.getD_cons_succ, List.getD_cons_zero, hn, List.drop_succ_cons, List.drop_zero]
    have ht : (ns.map numB).take ns.length = ns.map numB := List.take_of_length_le (by simp)
    rw [ht, if_neg (by omega), if_neg (by simp; omega), hm]
  rw [if_neg h1] at h
  have hn := hns h1
  subst hn
  by_cases h5 : k = 5
  · subst h5
    rw [if_pos rfl, Bool.and_eq_true, decide_eq_true_eq, decide_eq_true_eq] at h
    have e0 : encR ⟨5, [], bs⟩ = 5 :: (bigL 4 bs.length ++ bs) := rfl
    rw [e0]
    have hbl := bigL_length 4 bs.length
    have hg : getN (5 :: (bigL 4 bs.length ++ bs)) 1 4 = bs.length := by
      unfold getN
      rw [List.drop_succ_cons, List.drop_zero, List.take_append_of_le_length (by omega), List.take_of_length_le (by omega), small_big]
      omega
    unfold decR
    rw [if_neg (by simp), if_neg (by simp), if_pos (by simp), hg, if_neg (by simp; omega), if_neg (by omega), if_neg (by simp; omega)]
    rw [List.drop_succ_cons, List.drop_append_of_le_length (by omega), List.drop_of_length_le (by omega), List.nil_append]
  · rw [if_neg h5, Bool.and_eq_true, decide_eq_true_eq, decide_eq_true_eq] at h
    have hb := hbs h5
    subst hb
    have e0 : encR ⟨k, [], []⟩ = [UInt8.ofNat k] := by unfold encR; simp only [if_neg h1, if_neg h5]
    have hk : (UInt8.ofNat k).toNat = k := ofNat_byte _ (by omega)
    rw [e0]
    unfold decR
    simp only [List.getD_cons_zero, hk]
    rw [if_neg (by simp; omega), if_neg h1, if_neg h5, if_neg (by simp)]

/-- bytes that are taken are the reply's -/
theorem enc_dec (b : List UInt8) (r : Rp) (h : decR b = .ok r) : mayR r = true ∧ encR r = b := by
  unfold decR at h
  by_cases h0 : b = [] ∨ (b.getD 0 0).toNat < 1 ∨ 7 < (b.getD 0 0).toNat
  · rw [if_pos h0] at h; cases h
  rw [if_neg h0] at h
  match b with
  | [] => exact absurd (.inl rfl) h0
  | k :: s =>
    simp only [List.getD_cons_zero] at h h0
    by_cases h1 : k.toNat = 1
    · rw [if_pos h1] at h
      have hk : k = 1 := UInt8.toNat_inj.1 h1
      by_cases hl2 : (k :: s).length < 2
      · rw [if_pos hl2] at h; cases h
      rw [if_neg hl2] at h
      match s with
      | [] => simp at hl2
      | n :: t =>
        simp only [List.getD_cons_succ, List.getD_cons_zero, List.drop_succ_cons, List.drop_zero] at h
        by_cases hb : firstBad (t.take n.toNat) < (t.take n.toNat).length
        · rw [if_pos hb] at h; cases h
        rw [if_neg hb] at h
        by_cases hl : (k :: n :: t).length ≠ 2 + n.toNat
        · rw [if_pos hl] at h; cases h
        rw [if_neg hl] at h
        have hl' : t.length = n.toNat := by simp at hl; omega
        have ht : t.take n.toNat = t := List.take_of_length_le (by omega)
        rw [ht] at hb
        have hfb := firstBad_le t
        have hi := (incr_good t).2 (by omega)
        injection h with h
        subst h
        refine ⟨?_, ?_⟩
        · show (if (1 : Nat) ≠ 1 ∧ _ ∨ (1 : Nat) ≠ 5 ∧ ([] : List UInt8) ≠ [] then _ else _) = true
          rw [if_neg (by simp), if_pos rfl]
          exact hi
        · show (1 : UInt8) :: UInt8.ofNat (t.map byN).length :: (t.map byN).map numB = _
          rw [map_byN, List.length_map, hl', hk]
          congr 2
          exact UInt8.ofNat_toNat
    · rw [if_neg h1] at h
      by_cases h5 : k.toNat = 5
      · rw [if_pos h5] at h
        have hk : k = 5 := UInt8.toNat_inj.1 h5
        by_cases hl2 : (k :: s).length < 5
        · rw [if_pos hl2] at h; cases h
        rw [if_neg hl2] at h
        by_cases hg : getN (k :: s) 1 4 < 1 ∨ 131072 < getN (k :: s) 1 4
        · rw [if_pos hg] at h; cases h
        rw [if_neg hg] at h
        by_cases hl : (k :: s).length ≠ 5 + getN (k :: s) 1 4
        · rw [if_pos hl] at h; cases h
        rw [if_neg hl] at h
        injection h with h
        subst h
        have hl' : (s.drop 4).length = getN (k :: s) 1 4 := by
          rw [List.length_drop]; simp only [List.length_cons] at hl hl2; omega
        refine ⟨?_, ?_⟩
        · show (if (5 : Nat) ≠ 1 ∧ ([] : List Int) ≠ [] ∨ (5 : Nat) ≠ 5 ∧ _ then _ else _) = true
          rw [if_neg (by simp), if_neg (show ¬ (5 : Nat) = 1 by decide), if_pos rfl]
          show (decide (1 ≤ (s.drop 4).length) && decide ((s.drop 4).length ≤ 131072)) = true
          rw [Bool.and_eq_true, decide_eq_true_eq, decide_eq_true_eq]
          omega
        · show (5 : UInt8) :: (bigL 4 (s.drop 4).length ++ s.drop 4) = _
          rw [hl', hk]
          unfold getN
          rw [List.drop_succ_cons, List.drop_zero, big_small 4 _ (by rw [List.length_take]; simp only [List.length_cons] at hl2; omega), List.take_append_drop]
      · rw [if_neg h5] at h
        by_cases hl : (k :: s).length ≠ 1
        · rw [if_pos hl] at h; cases h
        rw [if_neg hl] at h
        have hs : s = [] := by simpa using hl
        injection h with h
        subst h
        subst hs
        refine ⟨?_, ?_⟩
        · show (if k.toNat ≠ 1 ∧ ([] : List Int) ≠ [] ∨ k.toNat ≠ 5 ∧ ([] : List UInt8) ≠ [] then _ else _) = true
          rw [if_neg (by simp), if_neg h1, if_neg h5, Bool.and_eq_true, decide_eq_true_eq, decide_eq_true_eq]
          simp at h0
          show 1 ≤ k.toNat ∧ k.toNat ≤ 7
          omega
        · show UInt8.ofNat k.toNat :: (if k.toNat = 1 then _ else if k.toNat = 5 then _ else []) = _
          rw [if_neg h1, if_neg h5, UInt8.ofNat_toNat]
theorem dec_place (b : List UInt8) (n : Nat) (h : decR b = .error n) : n ≤ b.length := by
  unfold decR at h
  have hfb := firstBad_le ((b.drop 2).take (b.getD 1 0).toNat)
  have hll : ((b.drop 2).take (b.getD 1 0).toNat).length ≤ b.length - 2 := by rw [List.length_take, List.length_drop]; omega
  by_cases h0 : b = [] ∨ (b.getD 0 0).toNat < 1 ∨ 7 < (b.getD 0 0).toNat
  · rw [if_pos h0] at h; injection h with h; omega
  rw [if_neg h0] at h
  have hb : 1 ≤ b.length := by
    rcases Nat.eq_zero_or_pos b.length with h | h
    · exact absurd (.inl (List.eq_nil_of_length_eq_zero h)) h0
    · exact h
  repeat' split at h
  all_goals first
    | (injection h with h; omega)
    | cases h

/-- how many bytes a reply has -/
def totR (b : List UInt8) : Nat := if (b.getD 0 0).toNat = 1 then 2 + (b.getD 1 0).toNat else if (b.getD 0 0).toNat = 5 then 5 + getN b 1 4 else 1
theorem dec_tot {b : List UInt8} {r : Rp} (h : decR b = .ok r) : b.length = totR b ∧ 1 ≤ b.length ∧ ((b.getD 0 0).toNat = 1 → 2 ≤ b.length) ∧ ((b.getD 0 0).toNat = 5 → 5 ≤ b.length) := by
  unfold decR at h
  by_cases h0 : b = [] ∨ (b.getD 0 0).toNat < 1 ∨ 7 < (b.getD 0 0).toNat
  · rw [if_pos h0] at h; cases h
  rw [if_neg h0] at h
  have hb : 1 ≤ b.length := by
    rcases Nat.eq_zero_or_pos b.length with h | h
    · exact absurd (.inl (List.eq_nil_of_length_eq_zero h)) h0
    · exact h
  unfold totR
  by_cases h1 : (b.getD 0 0).toNat = 1
  · rw [if_pos h1] at h ⊢
    repeat' split at h
    all_goals first
      | (cases h; done)
      | omega
  · rw [if_neg h1] at h ⊢
    by_cases h5 : (b.getD 0 0).toNat = 5
    · rw [if_pos h5] at h ⊢
      repeat' split at h
      all_goals first
        | (cases h; done)
        | omega
    · rw [if_neg h5] at h ⊢
      repeat' split at h
      all_goals first
        | (cases h; done)
        | omega
theorem getD_take {b : List UInt8} {k i : Nat} (h : i < k) : (b.take k).getD i 0 = b.getD i 0 := by
  rw [List.getD_eq_getElem?_getD, List.getD_eq_getElem?_getD, List.getElem?_take, if_pos h]
theorem getN_take {b : List UInt8} {k p n : Nat} (h : p + n ≤ k) : getN (b.take k) p n = getN b p n := by
  unfold getN
  rw [List.drop_take, List.take_take, Nat.min_eq_left (by omega)]
theorem getD_snoc {b : List UInt8} {m : UInt8} {i : Nat} (h : i < b.length) : (b ++ [m]).getD i 0 = b.getD i 0 := by
  rw [List.getD_eq_getElem?_getD, List.getD_eq_getElem?_getD, List.getElem?_append_left h]
theorem getN_snoc {b : List UInt8} {m : UInt8} {p n : Nat} (h : p + n ≤ b.length) : getN (b ++ [m]) p n = getN b p n := by
  unfold getN
  rw [List.drop_append_of_le_length (by omega), List.take_append_of_le_length (by rw [List.length_drop]; omega)]
/-- no beginning of a reply is one -/
theorem dec_short {b : List UInt8} {r : Rp} (h : decR b = .ok r) {k : Nat} (hk : k < b.length) : ∃ n, decR (b.take k) = .error n := by
  obtain ⟨h1, h2, h3, h4⟩ := dec_tot h
  cases hd : decR (b.take k) with
  | error n => exact ⟨n, rfl⟩
  | ok r' =>
    obtain ⟨k1, k2, k3, k4⟩ := dec_tot hd
    have hl : (b.take k).length = k := by rw [List.length_take]; omega
    rw [hl] at k1 k2 k3 k4
    rw [getD_take (by omega)] at k3 k4
    unfold totR at h1 k1
    rw [getD_take (by omega)] at k1
    by_cases e1 : (b.getD 0 0).toNat = 1
    · rw [if_pos e1] at h1 k1
      have := k3 e1
      rw [getD_take (by omega)] at k1
      omega
    · rw [if_neg e1] at h1 k1
      by_cases e5 : (b.getD 0 0).toNat = 5
      · rw [if_pos e5] at h1 k1
        have := k4 e5
        rw [getN_take (by omega)] at k1
        omega
      · rw [if_neg e5] at h1 k1
        omega
/-- nothing longer is one -/
theorem dec_long {b : List UInt8} {r : Rp} (h : decR b = .ok r) (m : UInt8) : decR (b ++ [m]) = .error b.length := by
  have h' := h
  obtain ⟨h1, h2, h3, h4⟩ := dec_tot h
  have hl : (b ++ [m]).length = b.length + 1 := by simp
  unfold decR at h ⊢
  unfold totR at h1
  rw [getD_snoc (show 0 < b.length by omega)]
  by_cases h0 : b = [] ∨ (b.getD 0 0).toNat < 1 ∨ 7 < (b.getD 0 0).toNat
  · rw [if_pos h0] at h; cases h
  rw [if_neg h0] at h
  rw [if_neg (fun hx => h0 (by
    rcases hx with hx | hx
    · exact absurd hx (by simp)
    · exact .inr hx))]
  by_cases e1 : (b.getD 0 0).toNat = 1
  · rw [if_pos e1] at h h1 ⊢
    have hb := h3 e1
    rw [if_neg (by omega)] at h ⊢
    rw [getD_snoc (show 1 < b.length by omega)]
    have e : (List.drop 2 (b ++ [m])).take (b.getD 1 0).toNat = (b.drop 2).take (b.getD 1 0).toNat := by
      rw [List.drop_append_of_le_length (by omega), List.take_append_of_le_length (by rw [List.length_drop]; omega)]
    rw [e]
    by_cases hf : firstBad ((b.drop 2).take (b.getD 1 0).toNat) < ((b.drop 2).take (b.getD 1 0).toNat).length
    · rw [if_pos hf] at h; cases h
    rw [if_neg hf, if_pos (by omega), hl]
    congr 1
    omega
  · rw [if_neg e1] at h h1 ⊢
    by_cases e5 : (b.getD 0 0).toNat = 5
    · rw [if_pos e5] at h h1 ⊢
      have hb := h4 e5
      rw [if_neg (by omega)] at h ⊢
      rw [getN_snoc (by omega)]
      by_cases hf : getN b 1 4 < 1 ∨ 131072 < getN b 1 4
      · rw [if_pos hf] at h; cases h
      rw [if_neg hf, if_pos (by omega), hl]
      congr 1
      omega
    · rw [if_neg e5] at h h1 ⊢
      rw [if_pos (by omega)]
      congr 1
      omega
end Go.Proofs.Ytkdmebcfedehiaa
/- octet.Small of four bytes (with the other widths). -/
namespace Go.Proofs.Ytkdmebcfedehiaa
end Go.Proofs.Ytkdmebcfedehiaa
/- bytes.Clone: the same bytes in memory of its own. -/
namespace Go.Proofs.Ytkdmebcfedehiaa
open Go.RowKit

set_option maxRecDepth 100000 in
set_option maxHeartbeats 400000 in
theorem clone_n (a : Option Addr) (c n : Nat) (l : List UInt8) (w : World) (ha : BLies w a l) (hl : l.length = n) (hn : n ≤ 4000000100) :
    Calls Try.prog 28 #[.slice a n c] w fun e w' => ∃ a' c', e = .returned (.slice a' n c') ∧ BOwn w' w.heap.size a' n c' l ∧ w.grownBy w' none := by
  have qT : ∀ (w : World) (a : Option Addr) (n c n' c' : Nat), (binOp .eql 24 (.slice a n c) (.slice none n' c')).run Try.prog w = .ok (.bool a.isNone) w := fun w a n c n' c' => Lib.run_eql_slice_nil w _ _ a n c n' c' Try.underlying24
  by_cases h0 : n = 0
  · subst h0
    obtain rfl : l = [] := List.eq_nil_of_length_eq_zero hl
    clear ha hl
    cases a with
    | none =>
      go_enter Try.func28, Try.ntmps28
      go_wp2
      go_ret
      exact ⟨none, 0, rfl, Own.nil _ _ _ _ _, World.grownBy.refl _ _⟩
    | some ad =>
      go_enter Try.func28, Try.ntmps28
      go_wp2
      go_ret
      exact ⟨_, _, rfl, Own.nil _ _ _ _ _, World.grownBy_alloc _ _ _⟩
  · obtain ⟨b, off, rfl⟩ := ha.addr (by omega)
    have HA := Lib.hid ha
    have HL := Lib.hid hl
    have hsz := Nat.le_succ w.heap.size
    clear ha hl
    go_enter Try.func28, Try.ntmps28
    go_wp2_with (at_builtin; refine wpList_app elB rfl (.tmp 5) (.tmp 6) rfl rfl (Own.nil _ w.heap.size _ _ _) ⟨b, off, none⟩ n c (l.map bval) rfl (by rw [List.length_map, HL.out, Nat.mul_one]) (HA.out.grown (World.grownBy_alloc _ _ _)).news (bval_one l) (by unfold maxLen; omega) (by omega) (by simp) (by omega) ?_; intro g cap w1 hown1 hgr)
    go_ret
    simp only [Nat.zero_add, List.nil_append] at hown1
    exact ⟨_, _, by simp, hown1, hgr.grew.grown (Own.nil _ w.heap.size 5 1 _) (World.grownBy_alloc w _ none) (Nat.le_refl _)⟩

end Go.Proofs.Ytkdmebcfedehiaa
/- A fresh variable of several cells that is written whole at once; rows that stand. -/
namespace Go.Proofs.Ytkdmebcfedehiaa
open Go.RowKit

/-- block g holds exactly the cells cs of a variable of type t -/
def Row (w : World) (g : Nat) (t : TypeId) (cs : Array Value) : Prop := w.heap[g]? = some (.cells cs t (0, 0))
theorem Row.lt {w : World} {g : Nat} {t : TypeId} {cs : Array Value} (h : Row w g t cs) : g < w.heap.size := (Array.getElem?_eq_some_iff.1 h).1
theorem Row.grown {w w' : World} {g : Nat} {t : TypeId} {cs : Array Value} (h : Row w g t cs) (hg : w.grownBy w' none) : Row w' g t cs :=
  (hg.block g h.lt (by simp)).trans h
theorem Row.grownNe {w w' : World} {g g' : Nat} {t : TypeId} {cs : Array Value} (h : Row w g t cs) (hg : w.grownBy w' (some g')) (hne : g ≠ g') : Row w' g t cs :=
  (hg.block g h.lt (by simpa using hne)).trans h
theorem Row.cell {w : World} {g : Nat} {t : TypeId} {cs : Array Value} (h : Row w g t cs) (k : Nat) : w.cell? ⟨g, k, none⟩ = cs[k]? := by
  unfold Row at h
  simp [World.cell?, h]

theorem Row.setc {w : World} {g : Nat} {t : TypeId} {cs : Array Value} (h : Row w g t cs) (k : Nat) (v : Value) : Row (w.setCell ⟨g, k, none⟩ v) g t (cs.setIfInBounds k v) := by
  unfold Row at h ⊢
  simp only [World.setCell, Array.getElem?_modify, ↓reduceIte, h, Option.map_some]
  simp
theorem Row.frozen {w : World} {g : Nat} {t : TypeId} {cs : Array Value} (h : Row w g t cs) (k : Nat) : w.frozen? ⟨g, k, none⟩ = false := by
  unfold Row at h
  simp [World.frozen?, h]

section
variable {P : Program}

theorem run_alloc_op (w : World) (ev : Operand → Value) {o : Oper} {T : TypeId} (ho : o.op = .alloc T) {i : TypeInfo} (hi : P.info? T = some i) {z : Value} (hz : i.zero = some z) :
    (execOp ev o).run P w = .ok (.value (.pointer (some ⟨w.heap.size, 0, none⟩))) (w.alloc (.cells z.cells T)) := by
  unfold execOp
  simp [ho, Instr.alloc, zeroValue, typeInfo, hi, hz, newVar, newRow]

theorem run_box_op (w : World) (ev : Operand → Value) {o : Oper} {T : TypeId} {x : Operand} (ho : o.op = .box T x) :
    (execOp ev o).run P w = .ok (.value (.pointer (some ⟨w.heap.size, 0, none⟩))) (w.alloc (.cells (ev x).cells T)) := by
  unfold execOp
  simp [ho, Instr.box, newVar, newRow]

theorem wpList_fresh {ops : Array Oper} {rest : List Oper} {o1 o2 : Oper} {a : Act} {w : World} {Q : Exit → Act → World → Prop} (hg1 : o1.guard = none) (hg2 : o2.guard = none) {T : TypeId} {d : Tmp} {x : Operand}
    (ho1 : o1.op = .alloc T) (hd : o1.dst = some d) (ho2 : o2.op = .store T (.tmp d) x) {i : TypeInfo} (hi : P.info? T = some i) {z : Value} (hz : i.zero = some z) (hsz : i.size = z.cells.size)
    (cs : Array Value) (hp : (a.put (some d) (.pointer (some ⟨w.heap.size, 0, none⟩))).eval (.tmp d) = .pointer (some ⟨w.heap.size, 0, none⟩)) (hx : (a.put (some d) (.pointer (some ⟨w.heap.size, 0, none⟩))).eval x = .agg cs)
    (hcs : z.cells.size = cs.size) (h1 : cs.all (·.oneCell') = true)
    (h : ∀ W, W.heap.size = w.heap.size + 1 → w.grownBy W none → Row W w.heap.size T cs → wpList P ops Q rest ((a.put (some d) (.pointer (some ⟨w.heap.size, 0, none⟩))).put o2.dst undef) W) :
    wpList P ops Q (o1 :: o2 :: rest) a w := by
  refine wpList_plain hg1 fun K hK => ?_
  unfold Oper.wp
  rw [run_alloc_op w a.eval ho1 hi hz, Oper.upon_value]
  refine hK _ _ ?_
  rw [hd]
  have hrow : (w.alloc (.cells z.cells T)).heap[w.heap.size]? = some (.cells z.cells T (0, 0)) := heap_alloc_new w _
  refine wpList_store_row hg2 T (.tmp d) x ho2 w.heap.size cs hp hx T z.cells hrow (by rw [hi]; simp [hsz, hcs]) hcs h1 ?_
  refine h _ (by simp) ?_ (setRow_heap _ _ _ _ _ _ hrow)
  exact grownBy_old (World.grownBy_alloc w (.cells z.cells T) none) (grownBy_setRow _ w.heap.size cs) (Nat.le_refl _)

theorem wpList_made {ops : Array Oper} {rest : List Oper} {o1 : Oper} {a : Act} {w : World} {Q : Exit → Act → World → Prop} (hg1 : o1.guard = none) {T : TypeId} (ho1 : o1.op = .alloc T) {i : TypeInfo} (hi : P.info? T = some i) {z : Value} (hz : i.zero = some z)
    (h : ∀ W, W.heap.size = w.heap.size + 1 → w.grownBy W none → Row W w.heap.size T z.cells → wpList P ops Q rest (a.put o1.dst (.pointer (some ⟨w.heap.size, 0, none⟩))) W) : wpList P ops Q (o1 :: rest) a w := by
  refine wpList_plain hg1 fun K hK => ?_
  unfold Oper.wp
  rw [run_alloc_op w a.eval ho1 hi hz, Oper.upon_value]
  exact hK _ _ (h _ (by simp) (World.grownBy_alloc w (.cells z.cells T) none) (heap_alloc_new w _))

theorem wpList_putrow {ops : Array Oper} {rest : List Oper} {o : Oper} {a : Act} {w : World} {Q : Exit → Act → World → Prop} (hg : o.guard = none) {T : TypeId} {x y : Operand} (ho : o.op = .store T x y)
    (g : Nat) (hx : a.eval x = .pointer (some ⟨g, 0, none⟩)) (cs : Array Value) (hy : a.eval y = .agg cs) {old : Array Value} (hr : Row w g T old) (hi : (P.info? T).map (·.size) = some cs.size) (hold : old.size = cs.size) (h1 : cs.all (·.oneCell') = true)
    (h : ∀ W, w.grownBy W (some g) → Row W g T cs → wpList P ops Q rest (a.put o.dst undef) W) : wpList P ops Q (o :: rest) a w :=
  wpList_store_row hg T x y ho g cs hx hy T old hr hi hold h1 (h _ (grownBy_setRow _ _ _) (setRow_heap _ _ _ _ _ _ hr))

theorem wpList_boxed {ops : Array Oper} {rest : List Oper} {o : Oper} {a : Act} {w : World} {Q : Exit → Act → World → Prop} (hg : o.guard = none) {T : TypeId} {x : Operand} (ho : o.op = .box T x)
    (cs : Array Value) (hx : a.eval x = .agg cs)
    (h : ∀ W, W.heap.size = w.heap.size + 1 → w.grownBy W none → Row W w.heap.size T cs → wpList P ops Q rest (a.put o.dst (.pointer (some ⟨w.heap.size, 0, none⟩))) W) :
    wpList P ops Q (o :: rest) a w := by
  refine wpList_plain hg fun K hK => ?_
  unfold Oper.wp
  rw [run_box_op w a.eval ho, Oper.upon_value, hx]
  refine hK _ _ ?_
  exact h _ (by simp) (World.grownBy_alloc w (.cells cs T) none) (heap_alloc_new w (.cells cs T))

end

section
variable {P : Program}
theorem run_load_op (w : World) (ev : Operand → Value) {o : Oper} (ty : TypeId) (x : Operand) (ho : o.op = .load ty x) (g : Nat) (hx : ev x = .pointer (some ⟨g, 0, none⟩)) (t : TypeId) (cs : Array Value) {d : TypeDesc} (hg : Row w g t cs)
    (hu : P.underlying ty = some d) (hd : (match d with | .struct _ | .array _ _ => true | _ => false) = true) (hi : (P.info? ty).map (·.size) = some cs.size) : (execOp ev o).run P w = .ok (.value (.agg cs)) w := by
  unfold execOp
  simp only [ho, hx, Instr.loadAt, Instr.sureAddr, Sem.run_bind, Sem.run_pure, Result.andThen_ok, run_loadVar_row w g t ty cs (0, 0) d hg hu hd hi]
theorem run_eql_op (w : World) (ev : Operand → Value) {o : Oper} {t ty : TypeId} (hgu : P.eqGuardType P.depth t = false) {x y : Operand} (ho : o.op = .binOp .eql t x y ty) (xs ys : Array Value) (hx : ev x = .agg xs) (hy : ev y = .agg ys) {v : Value} (h : (binOp .eql t (.agg xs) (.agg ys)).run P w = .ok v w) : (execOp ev o).run P w = .ok (.value v) w := by
  unfold execOp
  simp [ho, hx, hy, run_eqGuard_agg w .eql t x y xs ys hgu, h]
end

end Go.Proofs.Ytkdmebcfedehiaa
/- Variables of one cell that lie in memory: each a letter for the world; rows of bytes; rows of zeros that are made. -/
namespace Go.Proofs.Ytkdmebcfedehiaa
open Go.RowKit

theorem cells_one {v : Value} (h : v.oneCell' = true) : v.cells = #[v] := by cases v <;> first | rfl | cases h

section
variable {P : Program} {ops : Array Oper} {rest : List Oper} {a : Act} {w : World} {Q : Exit → Act → World → Prop}

theorem wpList_fresh1 {o1 o2 : Oper} (hg1 : o1.guard = none) (hg2 : o2.guard = none) {T : TypeId} {d : Tmp} {x : Operand}
    (ho1 : o1.op = .alloc T) (hd : o1.dst = some d) (ho2 : o2.op = .store T (.tmp d) x) {i : TypeInfo} (hi : P.info? T = some i) {z : Value} (hz : i.zero = some z) (hsz : i.size = 1) (hz1 : z.oneCell' = true)
    (v : Value) (hp : (a.put (some d) (.pointer (some ⟨w.heap.size, 0, none⟩))).eval (.tmp d) = .pointer (some ⟨w.heap.size, 0, none⟩)) (hx : (a.put (some d) (.pointer (some ⟨w.heap.size, 0, none⟩))).eval x = v)
    (h1 : v.oneCell' = true)
    (h : ∀ W, W.heap.size = w.heap.size + 1 → w.grownBy W none → Row W w.heap.size T #[v] → wpList P ops Q rest ((a.put (some d) (.pointer (some ⟨w.heap.size, 0, none⟩))).put o2.dst undef) W) :
    wpList P ops Q (o1 :: o2 :: rest) a w := by
  refine wpList_plain hg1 fun K hK => ?_
  unfold Oper.wp
  rw [run_alloc_op w a.eval ho1 hi hz, Oper.upon_value, cells_one hz1]
  refine hK _ _ ?_
  rw [hd]
  have hrow : (w.alloc (.cells #[z] T)).heap[w.heap.size]? = some (.cells #[z] T (0, 0)) := heap_alloc_new w _
  refine wpList_store_one hg2 T (.tmp d) x ho2 w.heap.size hp (by rw [hx]; exact h1) T z hrow (by rw [hi]; simp [hsz]) ?_
  rw [hx]
  refine h _ (by simp) ?_ (setRow_heap _ _ _ _ _ _ hrow)
  exact grownBy_old (World.grownBy_alloc w (.cells #[z] T) none) (grownBy_setRow _ w.heap.size #[v]) (Nat.le_refl _)

theorem wpList_put1 {o : Oper} (hg : o.guard = none) {T : TypeId} {x y : Operand} (ho : o.op = .store T x y)
    (g : Nat) (hx : a.eval x = .pointer (some ⟨g, 0, none⟩)) (v : Value) (hy : a.eval y = v) {old : Value} (hr : Row w g T #[old]) (hi : (P.info? T).map (·.size) = some 1) (h1 : v.oneCell' = true)
    (h : ∀ W, W.heap.size = w.heap.size → w.grownBy W (some g) → Row W g T #[v] → wpList P ops Q rest (a.put o.dst undef) W) : wpList P ops Q (o :: rest) a w := by
  refine wpList_store_one hg T x y ho g hx (by rw [hy]; exact h1) T old hr hi ?_
  rw [hy]
  exact h _ (by simp) (grownBy_setRow _ _ _) (setRow_heap _ _ _ _ _ _ hr)

theorem wpList_box1 {o : Oper} (hg : o.guard = none) {T : TypeId} {x : Operand} (ho : o.op = .box T x)
    (v : Value) (hx : a.eval x = v) (h1 : v.oneCell' = true)
    (h : ∀ W, W.heap.size = w.heap.size + 1 → w.grownBy W none → Row W w.heap.size T #[v] → wpList P ops Q rest (a.put o.dst (.pointer (some ⟨w.heap.size, 0, none⟩))) W) :
    wpList P ops Q (o :: rest) a w := by
  refine wpList_plain hg fun K hK => ?_
  unfold Oper.wp
  rw [run_box_op w a.eval ho, Oper.upon_value, hx, cells_one h1]
  refine hK _ _ ?_
  exact h _ (by simp) (World.grownBy_alloc w (.cells #[v] T) none) (heap_alloc_new w (.cells #[v] T))

end

/-- bytes as cells -/
def rowB (l : List UInt8) : Array Value := (l.map bval).toArray
theorem rowB_size (l : List UInt8) : (rowB l).size = l.length := by simp [rowB]
/-- the block g holds these bytes, and nothing else -/
def BRow (w : World) (g : Nat) (t : TypeId) (l : List UInt8) : Prop := Row w g t (rowB l)
section
variable {w w' : World} {g : Nat} {t : TypeId} {l : List UInt8}
theorem BRow.lt (h : BRow w g t l) : g < w.heap.size := Row.lt h
theorem BRow.cell (h : BRow w g t l) (k : Nat) (hk : k < l.length) : w.cell? ⟨g, k, none⟩ = some (.int .u8 ((l.getD k 0).toNat : Int)) := by
  rw [Row.cell h k]
  simp [rowB, hk, bval]
theorem BRow.frozen (h : BRow w g t l) (k : Nat) : w.frozen? ⟨g, k, none⟩ = false := Row.frozen h k
theorem BRow.set (h : BRow w g t l) (k : Nat) (x : UInt8) : BRow (w.setCell ⟨g, k, none⟩ (.int .u8 (x.toNat : Int))) g t (l.set k x) := by
  have h' := Row.setc h k (.int .u8 (x.toNat : Int))
  unfold BRow
  rw [show rowB (l.set k x) = (rowB l).setIfInBounds k (.int .u8 (x.toNat : Int)) by unfold rowB; rw [List.map_set, ← List.setIfInBounds_toArray]; rfl]
  exact h'
theorem BRow.grown (h : BRow w g t l) (hg : w.grownBy w' none) : BRow w' g t l := Row.grown h hg
theorem BRow.grownNe {g' : Nat} (h : BRow w g t l) (hg : w.grownBy w' (some g')) (hne : g ≠ g') : BRow w' g t l := Row.grownNe h hg hne
theorem BRow.lies (h : BRow w g t l) : BLies w (some ⟨g, 0, none⟩) l := by
  intro k hk
  refine ⟨g, 0, rfl, ?_⟩
  rw [Nat.zero_add, BRow.cell h k hk]
  simp [hk]
theorem BRow.own (h : BRow w g t l) {base : Nat} (hb : base ≤ g) (n : Nat) (hn : l.length = n) (hm : n ≤ maxLen) : Own w base t 1 (some ⟨g, 0, none⟩) n n (l.map bval) := by
  subst hn
  exact ⟨by simp, .inr ⟨g, rowB l, rfl, hb, h, Nat.le_refl _, hm, by simp [rowB], by simp [rowB, List.take_of_length_le]⟩⟩
end
theorem BRow.ownTake {w : World} {g : Nat} {t : TypeId} {l : List UInt8} (h : BRow w g t l) {base : Nat} (hb : base ≤ g) (k n : Nat) (hn : l.length = n) (hk : k ≤ n) (hm : n ≤ maxLen) : Own w base t 1 (some ⟨g, 0, none⟩) k n ((l.take k).map bval) := by
  subst hn
  exact ⟨by simp [hk], .inr ⟨g, rowB l, rfl, hb, h, hk, hm, by simp [rowB], by simp [rowB]⟩⟩

section
variable {P : Program} {ops : Array Oper} {rest : List Oper} {a : Act} {w : World} {Q : Exit → Act → World → Prop}
theorem madeCells_u8 (n : Nat) : madeCells #[.int .u8 0] n = rowB (List.replicate n 0) := by
  apply Array.toList_inj.1
  simp [madeCells, rowB]
  apply List.ext_getElem
  · simp
  · intro i h1 h2
    simp [Nat.mod_one, bval]
theorem wpList_mkB {o : Oper} (hg : o.guard = none) (l c : Operand) (t : TypeId) (hop : o.op = Op.makeSlice t l c) (e : TypeId) {i : TypeInfo} (ht : P.underlying t = some (.slice e)) (hi : P.info? e = some i) (hz : i.zero = some (.int .u8 0)) (hsize : i.size = 1) (hby : i.bytes = 1)
    (n : Nat) (hl : a.eval l = .int .i64 (n : Int)) (hc : a.eval c = .int .i64 (n : Int)) (hn : n ≤ 281474976710656)
    (h : ∀ W, W.heap.size = w.heap.size + 1 → w.grownBy W none → BRow W w.heap.size e (List.replicate n 0) → wpList P ops Q rest (a.put o.dst (.slice (some ⟨w.heap.size, 0, none⟩) n n)) W) :
    wpList P ops Q (o :: rest) a w := by
  refine wpList_make_row w hg l c t hop e i (.int .u8 0) ht hi hz hsize rfl .i64 .i64 n hl hc (by rw [hby]; omega) (by omega) ?_
  rw [madeCells_u8]
  exact h _ (by simp) (World.grownBy_alloc w _ none) (heap_alloc_new w _)
end

end Go.Proofs.Ytkdmebcfedehiaa
/- What a stretch of a walk may change: Ch, for rows that are owned, boxes, bytes that are read. -/
namespace Go.Proofs.Ytkdmebcfedehiaa
open Go.RowKit

theorem Ch.ofNone {w w' : World} (h : w.grownBy w' none) (S : Nat → Prop) : Ch S w w' := ⟨h.os, h.tape, h.output, h.size, fun k hk _ => h.block k hk (by simp)⟩
theorem Ch.ofSome {w w' : World} {g : Nat} (h : w.grownBy w' (some g)) {S : Nat → Prop} (hS : S g) : Ch S w w' :=
  ⟨h.os, h.tape, h.output, h.size, fun k hk hn => h.block k hk (by simp only [ne_eq, Option.some.injEq]; intro e; exact hn (e ▸ hS))⟩
theorem Ch.then {S : Nat → Prop} {a b c : World} (h : Ch S a b) (k : b.grownBy c none) : Ch S a c := h.trans (Ch.ofNone k S) (fun _ _ h => h)
theorem Ch.mono {S T : Nat → Prop} {a b : World} (h : Ch S a b) (hT : ∀ g, g < a.heap.size → S g → T g) : Ch T a b := ⟨h.os, h.tape, h.output, h.size, fun k hk hn => h.block k hk (fun hs => hn (hT k hk hs))⟩
theorem Ch.fresh {S : Nat → Prop} {w0 w w' : World} (hg : w0.grownBy w none) (h : Ch S w w') (hS : ∀ g, g < w0.heap.size → ¬ S g) : w0.grownBy w' none :=
  ⟨h.os.trans hg.os, h.tape.trans hg.tape, h.output.trans hg.output, Nat.le_trans hg.size h.size, fun k hk _ => (h.block k (Nat.lt_of_lt_of_le hk hg.size) (hS k hk)).trans (hg.block k hk (by simp))⟩
theorem Ch.some' {w w' : World} {g : Nat} {S : Nat → Prop} (h : Ch S w w') (hS : ∀ k, k < w.heap.size → S k → k = g) : w.grownBy w' (some g) :=
  ⟨h.os, h.tape, h.output, h.size, fun k hk hn => h.block k hk (fun hs => hn (by rw [hS k hk hs]))⟩
theorem Own.ch {S : Nat → Prop} {w w' : World} {base : Nat} {e : TypeId} {size : Nat} {a : Option Addr} {n c : Nat} {xs : List Value} (h : Own w base e size a n c xs) (hc : Ch S w w') (hS : 0 < c → ∀ g, a = some ⟨g, 0, none⟩ → ¬ S g) : Own w' base e size a n c xs :=
  h.kept' fun h0 g e hl => hc.block g hl (hS h0 g e)
theorem Row.ch {S : Nat → Prop} {w w' : World} {g : Nat} {t : TypeId} {cs : Array Value} (h : Row w g t cs) (hc : Ch S w w') (hS : ¬ S g) : Row w' g t cs := (hc.block g h.lt hS).trans h
theorem BLies.ch {S : Nat → Prop} {w w' : World} {a : Option Addr} {l : List UInt8} (h : BLies w a l) (hc : Ch S w w') (hS : ∀ b off, a = some ⟨b, off, none⟩ → ¬ S b) : BLies w' a l :=
  h.heap fun b off e hl => hc.block b hl (hS b off e)
/-- the block of what is owned -/
def In (a : Option Addr) (c : Nat) (g : Nat) : Prop := 0 < c ∧ a = some ⟨g, 0, none⟩
theorem Own.inn {w : World} {base : Nat} {e : TypeId} {size : Nat} {a : Option Addr} {n c : Nat} {xs : List Value} (h : Own w base e size a n c xs) {g : Nat} (hi : In a c g) : base ≤ g ∧ g < w.heap.size := by
  obtain ⟨g', e1, h1, h2⟩ := Own.block h hi.1
  rw [hi.2] at e1; injection e1 with e1; injection e1 with e1
  omega
/-- an append is a change of its own block alone -/
theorem GrewP.ch {w w1 : World} {a : Option Addr} {c : Nat} {a' : Option Addr} {c' : Nat} (h : GrewP w w1 a c a' c') : Ch (In a c) w w1 := by
  rcases h with ⟨g, rfl, rfl, hc, _, hg⟩ | ⟨g, _, _, hg⟩
  · exact Ch.ofSome hg ⟨hc, rfl⟩
  · exact Ch.ofNone hg _
/-- the block behind an append: the same, or a new one -/
theorem GrewP.inn {w w1 : World} {a : Option Addr} {c : Nat} {a' : Option Addr} {c' : Nat} (h : GrewP w w1 a c a' c') {g : Nat} (hi : In a' c' g) : In a c g ∨ w.heap.size ≤ g := by
  rcases h with ⟨g', e, rfl, hc, rfl, hg⟩ | ⟨g', e, hge, hg⟩
  · exact .inl hi
  · rw [e] at hi
    obtain ⟨_, h2⟩ := hi
    injection h2 with h2; injection h2 with h2
    subst h2
    exact .inr hge

end Go.Proofs.Ytkdmebcfedehiaa
/- wire: a reply of two numbers as bytes, a reply of one byte out of its bytes: what 'lives' asks. -/
namespace Go.Proofs.Ytkdmebcfedehiaa
open Go.RowKit

set_option maxRecDepth 100000 in
set_option maxHeartbeats 1000000 in
theorem number_n (x : Int) (w : World) : Calls Try.prog 26 #[.int .i64 x] w fun e w' => e = .returned (.bool (decide (0 ≤ x) && decide (x < 255))) ∧ w = w' := by
  by_cases h : 0 ≤ x
  · have h1 : decide (0 ≤ x) = true := by simpa using h
    rw [h1, Bool.true_and]
    go_enter Try.func26, Try.ntmps26
    go_wp2
    go_ret
    exact ⟨rfl, rfl⟩
  · have h1 : decide (0 ≤ x) = false := by simpa using h
    rw [h1, Bool.false_and]
    go_enter Try.func26, Try.ntmps26
    go_wp2
    go_ret
    exact ⟨rfl, rfl⟩

set_option maxRecDepth 100000 in
set_option maxHeartbeats 1000000 in
theorem mayTell_a (g : Nat) (w : World) (h : Row w g 3 #[.int .i64 0, .int .i64 3]) :
    Calls Try.prog 22 #[.agg #[.int .u8 1, .slice (some ⟨g, 0, none⟩) 2 2, .slice none 0 0]] w fun e w' => e = .returned (.bool true) ∧ w.grownBy w' none := by
  have H := Lib.hid h
  clear h
  go_enter Try.func22, Try.ntmps22
  go_wp2_with (refine wpList_boxed rfl rfl #[.int .u8 1, .slice (some ⟨g, 0, none⟩) 2 2, .slice none 0 0] rfl ?_; intro wb hsb hgb hrb; have c0 := Row.cell hrb 0; have c1 := Row.cell hrb 1; have c2 := Row.cell hrb 2; have d0 := Row.cell (H.out.grown hgb) 0; have d1 := Row.cell (H.out.grown hgb) 1; simp at c0 c1 c2 d0 d1; have HG := Lib.hid hgb; clear hsb hgb hrb)
  go_loopw [32] (fun vi wr => ∃ k : Nat, k ≤ 2 ∧ vi = .int .i64 k ∧ wr = wb) (fun vi _ => 2 - (intOf vi).toNat)
  case atStart => exact ⟨0, by omega, rfl, rfl⟩
  case round =>
    obtain ⟨k, hk, rfl, rfl⟩ := hrel
    rcases (by omega : k = 0 ∨ k = 1 ∨ k = 2) with rfl | rfl | rfl
    · rw [show ((0 : Nat) : Int) = 0 from rfl]
      go_wp2_with fail
      refine (number_n 0 _).mono ?_
      rintro e w' ⟨rfl, rfl⟩
      go_wp2_with fail
      go_roundw
      case rel => exact ⟨1, by omega, by first | rfl | go_num, by first | rfl | trivial⟩
      case measure => simp [intOf]
    · rw [show ((1 : Nat) : Int) = 1 from rfl]
      go_wp2_with fail
      refine (number_n 3 _).mono ?_
      rintro e w' ⟨rfl, rfl⟩
      go_wp2_with fail
      go_roundw
      case rel => exact ⟨2, by omega, by first | rfl | go_num, by first | rfl | trivial⟩
      case measure => simp [intOf]
    · rw [show ((2 : Nat) : Int) = 2 from rfl]
      go_wp2_with fail
      go_ret
      exact ⟨rfl, HG.out⟩

set_option maxRecDepth 100000 in
set_option maxHeartbeats 1000000 in
theorem putReply_a (g : Nat) (w : World) (h : Row w g 3 #[.int .i64 0, .int .i64 3]) :
    Calls Try.prog 9 #[.agg #[.int .u8 1, .slice (some ⟨g, 0, none⟩) 2 2, .slice none 0 0]] w fun e w' => ∃ a' c', e = .returned (.tuple #[.slice a' 4 c', .int .i64 0]) ∧ BOwn w' w.heap.size a' 4 c' [1, 2, 0, 3] ∧ w.grownBy w' none := by
  have H := Lib.hid h
  clear h
  go_enter Try.func9, Try.ntmps9
  go_wp2_with (first | (refine wpList_boxed rfl rfl #[.int .u8 1, .slice (some ⟨g, 0, none⟩) 2 2, .slice none 0 0] rfl ?_; intro wb hsb hgb hrb; have HB := Lib.hid hrb; have HG := Lib.hid hgb; clear hsb hgb hrb) | (refine wpList_load_row rfl 26 _ rfl w.heap.size rfl 26 #[.int .u8 1, .slice (some ⟨g, 0, none⟩) 2 2, .slice none 0 0] (0, 0) _ HB.out Try.underlying26 rfl (by kernel_rfl) ?_))
  refine (mayTell_a g wb (H.out.grown HG.out)).mono ?_
  rintro e w1 ⟨rfl, hg1⟩
  have HG1 := Lib.hid (grownBy_trans HG.out hg1)
  have HB1 := Lib.hid (HB.out.grown hg1)
  have c0 := Row.cell HB1.out 0
  simp at c0
  have hlt : w.heap.size < w1.heap.size := HB1.out.lt
  have hgl : g < w.heap.size := H.out.lt
  clear hg1
  go_upto_region 4 with fail
  obtain ⟨W2, hW2⟩ : ∃ W2, W2 = w1.alloc (.cells #[.int .u8 1] 5) := ⟨_, rfl⟩
  rw [← hW2]
  have hg2 : w1.grownBy W2 none := hW2 ▸ World.grownBy_alloc _ _ none
  have hr2 : BRow W2 w1.heap.size 5 [1] := by rw [hW2]; exact heap_alloc_new w1 _
  have ho2 : Own W2 w.heap.size 5 1 (some ⟨w1.heap.size, 0, none⟩) 1 1 (([1] : List UInt8).map bval) := BRow.own hr2 (by omega) 1 rfl (by decide)
  have HO2 := Lib.hid ho2
  have HG2 := Lib.hid (grownBy_trans HG1.out hg2)
  have HB2 := Lib.hid (HB1.out.grown hg2)
  clear c0 hW2 hg2 hr2 ho2
  have c0 := Row.cell HB2.out 0
  have c1 := Row.cell HB2.out 1
  simp at c0 c1
  have hwv : IntKind.u8.wrap 2 = 2 := rfl
  go_upto_region 7 with (at_builtin; refine wpList_push elB rfl (.tmp 17) (.tmp 22) rfl rfl HO2.out (.int .u8 2) rfl rfl (by decide) (by decide) HG2.out.size ?_; intro g3 cap3 w3 hown3 hgr3; have HO3 := Lib.hid hown3; have HG3 := Lib.hid (hgr3.grew.grown HO2.out HG2.out (Nat.le_refl _)); have HB3 := Lib.hid (Row.ch HB2.out hgr3.ch (fun h => by have := h.2; injection this with this; injection this with this; omega)); clear hown3 hgr3)
  clear c0 c1
  have c1 := Row.cell HB3.out 1
  simp at c1
  have HO3' : Hid (Own w3 w.heap.size 5 1 (some ⟨g3, 0, none⟩) 2 cap3 (([1, 2] : List UInt8).map bval)) := HO3
  clear HO3
  go_wp2_with fail
  go_loopw [27, 4] (fun vi vo wr => ∃ (k : Nat) (a : Option Addr) (m c : Nat), k ≤ 2 ∧ m = 2 + k ∧ vi = .int .i64 k ∧ vo = .slice a m c ∧ Own wr w.heap.size 5 1 a m c ((([1, 2] : List UInt8) ++ ([0, 3] : List UInt8).take k).map bval) ∧ w.grownBy wr none) (fun vi _ _ => 2 - (intOf vi).toNat)
  case atStart => exact ⟨0, _, _, _, by omega, rfl, rfl, rfl, HO3'.out, HG3.out⟩
  case round =>
    obtain ⟨k, a, m, c, hk, hm, rfl, rfl, ho, hg⟩ := hrel
    have HO := Lib.hid ho
    have HG4 := Lib.hid hg
    have d0 := Row.cell (H.out.grown hg) 0
    have d1 := Row.cell (H.out.grown hg) 1
    simp at d0 d1
    clear ho hg
    rcases (by omega : k = 0 ∨ k = 1 ∨ k = 2) with rfl | rfl | rfl
    · subst hm
      rw [show ((0 : Nat) : Int) = 0 from rfl]
      have hwv0 : IntKind.u8.wrap 0 = 0 := rfl
      go_wp2_with (at_builtin; refine wpList_push elB rfl (.tmp 31) (.tmp 34) rfl rfl HO.out (.int .u8 0) rfl rfl (by decide) (by decide) HG4.out.size ?_; intro g5 cap5 w5 hown5 hgr5; have HO5 := Lib.hid hown5; have HG5 := Lib.hid (hgr5.grew.grown HO.out HG4.out (Nat.le_refl _)); clear hown5 hgr5)
      go_roundw
      case rel => exact ⟨1, _, _, _, by omega, rfl, by first | rfl | go_num, rfl, HO5.out, HG5.out⟩
      case measure => simp [intOf]
    · subst hm
      rw [show ((1 : Nat) : Int) = 1 from rfl]
      have hwv3 : IntKind.u8.wrap 3 = 3 := rfl
      go_wp2_with (at_builtin; refine wpList_push elB rfl (.tmp 31) (.tmp 34) rfl rfl HO.out (.int .u8 3) rfl rfl (by decide) (by decide) HG4.out.size ?_; intro g5 cap5 w5 hown5 hgr5; have HO5 := Lib.hid hown5; have HG5 := Lib.hid (hgr5.grew.grown HO.out HG4.out (Nat.le_refl _)); clear hown5 hgr5)
      go_roundw
      case rel => exact ⟨2, _, _, _, by omega, rfl, by first | rfl | go_num, rfl, HO5.out, HG5.out⟩
      case measure => simp [intOf]
    · subst hm
      rw [show ((2 : Nat) : Int) = 2 from rfl]
      go_wp2_with fail
      go_ret2
      exact ⟨_, _, rfl, HO.out, HG4.out⟩

theorem results_ctt {P : Program} {fn : Func} {p q r : Tmp} {ty : TypeId} (h : fn.results = #[.cell p ty, .tmp q, .tmp r]) (tmps : Array Value) (w : World) (g : Nat) (t : TypeId) (cs : Array Value) (fr : Nat × Nat) (d : TypeDesc) (v u : Value)
    (hp : tmps.getD p undef = .pointer (some ⟨g, 0, none⟩)) (hq : tmps.getD q undef = v) (hr : tmps.getD r undef = u) (hg : w.heap[g]? = some (.cells cs t fr))
    (hu : P.underlying ty = some d) (hd : (match d with | .struct _ | .array _ _ => true | _ => false) = true) (hi : (P.info? ty).map (·.size) = some cs.size) :
    (results fn tmps).run P w = .ok (.tuple #[.agg cs, v, u]) w := by
  have hp' : tmps[p]?.getD undef = .pointer (some ⟨g, 0, none⟩) := by simpa using hp
  have hq' : tmps[q]?.getD undef = v := by simpa using hq
  have hr' : tmps[r]?.getD undef = u := by simpa using hr
  simp [results, h, hp', hq', hr', asAddr, run_loadVar_row w g t ty cs fr d hg hu hd hi]

theorem small_1 : smallL [0, 0, 0, 1] = 1 := by decide

set_option maxRecDepth 100000 in
set_option maxHeartbeats 4000000 in
theorem reply_a (g : Nat) (w : World) (h : BRow w g 5 [5, 0, 0, 0, 1, 170]) :
    Calls Try.prog 10 #[.slice (some ⟨g, 0, none⟩) 6 6] w fun e w' => ∃ a' c', e = .returned (.tuple #[.agg #[.int .u8 5, .slice none 0 0, .slice a' 1 c'], .int .i64 0, .int .i64 0]) ∧ BOwn w' w.heap.size a' 1 c' [170] ∧ w.grownBy w' none := by
  obtain ⟨ir, hir, hirz, hirs, _⟩ := info_parts (show (Try.prog.info? 26).map (fun i => (i.zero, i.size, i.bytes)) = some (some (.agg #[.int .u8 0, .slice none 0 0, .slice none 0 0]), 3, 56) by kernel_rfl)
  have hgl : g < w.heap.size := h.lt
  have hsm := small32_any (some ⟨g, 1, none⟩) 5 4 [0, 0, 0, 1]
  have hcl := clone_n (some ⟨g, 5, none⟩) 1 1 [170]
  have H := Lib.hid h
  clear h
  have b0 : ∀ W, w.grownBy W none → W.cell? ⟨g, 0, none⟩ = some (.int .u8 5) := fun W hg => by
    have := (H.out.grown hg).cell 0 (by decide); simpa using this
  have bl : ∀ W, w.grownBy W none → BLies W (some ⟨g, 1, none⟩) [0, 0, 0, 1] := fun W hg k hk => by
    have h1 := (H.out.grown hg).cell (k + 1) (by simp at hk ⊢; omega)
    refine ⟨g, 1, rfl, ?_⟩
    rw [Nat.add_comm, h1]
    match k, hk with
    | 0, _ => rfl
    | 1, _ => rfl
    | 2, _ => rfl
    | 3, _ => rfl
    | k + 4, hk => simp at hk; omega
  have bt : ∀ W, w.grownBy W none → BLies W (some ⟨g, 5, none⟩) [170] := fun W hg k hk => by
    have h1 := (H.out.grown hg).cell (k + 5) (by simp at hk ⊢; omega)
    refine ⟨g, 5, rfl, ?_⟩
    rw [Nat.add_comm, h1]
    match k, hk with
    | 0, _ => rfl
    | k + 1, hk => simp at hk
  have B0 := Lib.hid b0
  have hsm2 : ∀ W, w.grownBy W none → Calls Try.prog 27 #[.slice (some ⟨g, 1, none⟩) 4 5] W fun e w' => e = .returned (.tuple #[.int .u32 1, .int .i64 0]) ∧ W = w' := fun W hg => by
    have h := hsm W (bl W hg) rfl (by decide)
    rw [if_neg (by omega), if_neg (by omega), small_1] at h
    exact h
  have HSM := Lib.hid hsm2
  have HCL := Lib.hid (fun W hg => hcl W (bt W hg) rfl (by omega))
  clear b0 bl bt hsm hsm2 hcl
  go_enter Try.func10, Try.ntmps10
  go_upto_region 4 with (refine wpList_made rfl rfl hir hirz ?_; intro w1 hs1 hg1 hr1; have HS1 := Lib.hid hs1; have HG1 := Lib.hid hg1; have HR1 := Lib.hid (show Row w1 w.heap.size 26 #[.int .u8 0, .slice none 0 0, .slice none 0 0] from hr1); clear hs1 hg1 hr1)
  have c0 := B0.out w1 HG1.out
  go_upto_region 24 with (refine wpList_fresh rfl rfl rfl rfl rfl hir hirz (by rw [hirs]; rfl) #[.int .u8 5, .slice none 0 0, .slice none 0 0] rfl rfl rfl (by simp [Value.oneCell']) ?_; intro w2 hs2 hg2 hr2; have HG2 := Lib.hid (grownBy_trans HG1.out hg2); have HR2 := Lib.hid hr2; have HR1' := Lib.hid (HR1.out.grown hg2); have d0 := Row.cell hr2 0; simp at d0; clear hs2 hg2 hr2)
  go_wp2_with fail
  refine (HSM.out w2 HG2.out).mono ?_
  rintro e w' ⟨rfl, rfl⟩
  go_wp2_with fail
  refine (HCL.out w2 HG2.out).mono ?_
  rintro e w3 ⟨a', c', rfl, hown3, hg3⟩
  have hs1 := HS1.out
  have hz2 := HG2.out.size
  have hb2 := HR2.out.lt
  have HO3 := Lib.hid hown3
  have HG3 := Lib.hid (grownBy_trans HG2.out hg3)
  have HR3 := Lib.hid (HR2.out.grown hg3)
  have HT3 := Lib.hid (HR1'.out.grown hg3)
  have e2 := Row.cell HR3.out 2
  have f2 := Row.frozen HR3.out 2
  simp at e2
  obtain ⟨bo, hbo⟩ : ∃ bo, bo = w1.heap.size := ⟨_, rfl⟩
  have hbl := HR3.out.lt
  rw [← hbo] at HR3 e2 f2 hbl hb2 ⊢
  have hbw : w.heap.size < bo := by omega
  clear hbo
  clear hown3 hg3 d0 c0 hs1 hz2
  go_upto_region 32 with fail
  obtain ⟨W4, hW4⟩ : ∃ W4, W4 = w3.setCell ⟨bo, 2, none⟩ (.slice a' 1 c') := ⟨_, rfl⟩
  rw [← hW4]
  have hg4 : w3.grownBy W4 (some bo) := hW4 ▸ grownBy_setCell _ _ _ _
  have HR4 := Lib.hid (show Row W4 bo 26 #[.int .u8 5, .slice none 0 0, .slice a' 1 c'] from hW4 ▸ Row.setc HR3.out 2 (.slice a' 1 c'))
  have HT4 := Lib.hid (HT3.out.grownNe hg4 (by omega))
  have HG4 := Lib.hid (grownBy_old HG3.out hg4 (by omega))
  have ho4 : Own W4 w2.heap.size 5 1 a' 1 c' (([170] : List UInt8).map bval) := Own.ch HO3.out (Ch.ofSome (S := fun k => k = bo) hg4 rfl) (fun h0 g e h => by
    have := (Own.inn HO3.out (g := g) ⟨h0, e⟩).1
    omega)
  have HO4 := Lib.hid ho4
  clear ho4 hg4 hW4 e2 f2 HR3 HT3 HG3 HO3 HR2 HR1' HR1
  go_wp2_with (first | (refine wpList_load_row rfl 26 _ rfl bo rfl 26 #[.int .u8 5, .slice none 0 0, .slice a' 1 c'] (0, 0) _ HR4.out Try.underlying26 rfl (by kernel_rfl) ?_) | (refine wpList_putrow rfl rfl w.heap.size rfl #[.int .u8 5, .slice none 0 0, .slice a' 1 c'] rfl HT4.out (by kernel_rfl) rfl (by simp [Value.oneCell']) ?_; intro W5 hg5 hr5; have HG5 := Lib.hid hg5; have HR5 := Lib.hid hr5; clear hg5 hr5))
  have ho5 := Own.ch HO4.out (Ch.ofSome (S := fun k => k = w.heap.size) HG5.out rfl) (fun h0 g e h => by
    have := (Own.inn HO4.out (g := g) ⟨h0, e⟩).1
    omega)
  refine bodyPost_ret (results_ctt rfl _ _ w.heap.size 26 #[.int .u8 5, .slice none 0 0, .slice a' 1 c'] (0, 0) _ _ _ rfl rfl rfl HR5.out Try.underlying26 rfl (by kernel_rfl)) rfl ?_
  exact ⟨_, _, rfl, Own.mono ho5 HG2.out.size, grownBy_old HG4.out HG5.out (Nat.le_refl _)⟩


set_option maxRecDepth 100000 in
set_option maxHeartbeats 4000000 in
theorem lives_n (w : World) : Calls Try.prog 8 #[] w fun e w' => e = .returned (.bool true) ∧ w.grownBy w' none := by
  obtain ⟨ir, hir, hirz, hirs, _⟩ := info_parts (show (Try.prog.info? 26).map (fun i => (i.zero, i.size, i.bytes)) = some (some (.agg #[.int .u8 0, .slice none 0 0, .slice none 0 0]), 3, 56) by kernel_rfl)
  go_enter Try.func8, Try.ntmps8
  go_wp2_with fail
  have hp := putReply_a w.heap.size (w.alloc (.cells #[.int .i64 0, .int .i64 3] 3)) (heap_alloc_new w _)
  refine hp.mono ?_
  rintro e w1 ⟨a1, c1, rfl, ho1, hg1⟩
  have HO1 := Lib.hid ho1
  have HG1 := Lib.hid (grownBy_trans (World.grownBy_alloc w _ none) hg1)
  clear hp ho1 hg1
  go_wp2_with fail
  have hp := reply_a w1.heap.size (w1.alloc (.cells #[.int .u8 5, .int .u8 0, .int .u8 0, .int .u8 0, .int .u8 1, .int .u8 170] 5)) (heap_alloc_new w1 _)
  refine hp.mono ?_
  rintro e w2 ⟨a2, c2, rfl, ho2, hg2⟩
  have HO2 := Lib.hid ho2
  have hg12 := grownBy_trans (World.grownBy_alloc w1 _ none) hg2
  have HG2 := Lib.hid (grownBy_trans HG1.out hg12)
  replace HO1 := Lib.hid (Own.ch HO1.out (Ch.ofNone hg12 (fun _ => False)) (fun _ _ _ h => h))
  clear hp ho2 hg2 hg12
  go_upto_region 3 with (refine wpList_fresh rfl rfl rfl rfl rfl hir hirz (by rw [hirs]; rfl) #[.int .u8 5, .slice none 0 0, .slice a2 1 c2] rfl rfl rfl (by simp [Value.oneCell']) ?_; intro w3 hs3 hg3 hr3; have HG3 := Lib.hid (grownBy_trans HG2.out hg3); have HR3 := Lib.hid hr3; have HA3 := Lib.hid (Own.ch HO1.out (Ch.ofNone hg3 (fun _ => False)) (fun _ _ _ h => h)); have HB3 := Lib.hid (Own.ch HO2.out (Ch.ofNone hg3 (fun _ => False)) (fun _ _ _ h => h)); clear hs3 hg3 hr3)
  obtain ⟨bo, hbo⟩ : ∃ bo, bo = w2.heap.size := ⟨_, rfl⟩
  rw [← hbo] at HR3 ⊢
  clear hbo
  go_wp2_with fail
  have hga := World.grownBy_alloc w3 (.cells #[.int .u8 1, .int .u8 2, .int .u8 0, .int .u8 3] 5) none
  have hb4 : BRow (w3.alloc (.cells #[.int .u8 1, .int .u8 2, .int .u8 0, .int .u8 3] 5)) w3.heap.size 5 [1, 2, 0, 3] := heap_alloc_new w3 _
  have ha4 : BOwn (w3.alloc (.cells #[.int .u8 1, .int .u8 2, .int .u8 0, .int .u8 3] 5)) _ a1 4 c1 [1, 2, 0, 3] := Own.ch HA3.out (Ch.ofNone hga (fun _ => False)) (fun _ _ _ h => h)
  refine (same_yes _ _ _ _ _ _ [1, 2, 0, 3] _ (BOwn.lies ha4) (BRow.lies hb4) rfl rfl (by decide)).mono ?_
  rintro e w5 ⟨rfl, q5, hq5⟩
  have hg5 := grownBy_trans hga (show (w3.alloc (.cells #[.int .u8 1, .int .u8 2, .int .u8 0, .int .u8 3] 5)).grownBy w5 none from hq5 ▸ grownBy_drewN _ _ _)
  have HG5 := Lib.hid (grownBy_trans HG3.out hg5)
  have hr5 := HR3.out.grown hg5
  have ho5 : BOwn w5 _ a2 1 c2 [170] := Own.ch HB3.out (Ch.ofNone hg5 (fun _ => False)) (fun _ _ _ h => h)
  obtain ⟨b, off, hb, hc⟩ := (BOwn.lies ho5) 0 (by decide)
  have d0 := Row.cell hr5 0
  have d2 := Row.cell hr5 2
  simp at d0 d2 hc
  subst hb
  clear hga hb4 ha4 hq5 hg5 hr5 ho5 HR3 HA3 HB3
  go_wp2_with fail
  go_ret
  exact ⟨rfl, HG5.out⟩

set_option maxRecDepth 100000 in
set_option maxHeartbeats 1000000 in
theorem wireNames_walk (w : World) : Calls Try.prog 4 #[] w fun e w' => e = .returned (.bool true) ∧ w.grownBy w' none := by
  go_enter Try.func4, Try.ntmps4
  go_wp2_with fail
  refine (lives_n _).mono ?_
  rintro e w1 ⟨rfl, hg1⟩
  have HG1 := Lib.hid hg1
  clear hg1
  go_wp2_with fail
  go_ret
  exact ⟨rfl, HG1.out⟩

end Go.Proofs.Ytkdmebcfedehiaa
