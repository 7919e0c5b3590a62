/- Helpers and contracts of the proofs over this seat: Base, Own, Read, Same, Lent, Kept, Apart, Lists, RdLists, RdFlat, Clone, Row, Box, Ch, Reader, Width, Big, Small. Each states what a function of the program answers, or is plain Lean; its conditions stand in each statement. -/
import Derived.Test.YthemlaibjchjpaaProg
import Derived.WalkKit
import Derived.WalkSpells
import Derived.WalkLawsBesides
import Derived.Deep.QuietTactic
import Derived.BigQuiet
import Derived.Deep.LoopGhost
import Derived.Deep.DeepCutAuto
import Derived.StillTailTactics
import Derived.Deep.DeepMust
import Derived.Lib.Hide
import Derived.Test.YthemlaibjchjpaaRows
import Derived.ProofKit
import Derived.OpenShut
import Derived.ShutString
import Derived.ChangeOld
import Derived.JoinedCond
import Derived.Deep.Slices
import Derived.Lib.SliceRun
import Derived.Great.BuildSlice
import Derived.Deep.OwnRows
import Derived.Handy
set_option linter.unusedVariables false
/- The words that all walks of this seat share: rows of cells that are read, rows that the call owns, what a call may change. -/
namespace Go.Proofs.Ythemlaibjchjpaa
open Go.RowKit

/-- a byte as a cell -/
def bval (x : UInt8) : Value := .int .u8 (x.toNat : Int)

/-- from the address a on the cells xs lie (nothing is asked of a where there are none) -/
def Lies (w : World) (a : Option Addr) (xs : List Value) : Prop :=
  ∀ (k : Nat) (h : k < xs.length), ∃ b off, a = some ⟨b, off, none⟩ ∧ w.cell? ⟨b, off + k, none⟩ = some xs[k]

/-- from the address a on these bytes lie -/
def BLies (w : World) (a : Option Addr) (l : List UInt8) : Prop :=
  ∀ (k : Nat) (h : k < l.length), ∃ b off, a = some ⟨b, off, none⟩ ∧ w.cell? ⟨b, off + k, none⟩ = some (.int .u8 ((l[k]).toNat : Int))

theorem BLies.heap {w w' : World} {a : Option Addr} {l : List UInt8} (h : BLies w a l) (hk : ∀ b off, a = some ⟨b, off, none⟩ → b < w.heap.size → w'.heap[b]? = w.heap[b]?) : BLies w' a l := by
  intro k hk'
  obtain ⟨b, off, e, hc⟩ := h k hk'
  exact ⟨b, off, e, (World.cell?_of_block (hk b off e (World.block_lt_of_cell? w _ hc))).trans hc⟩
theorem BLies.grown {w w' : World} {a : Option Addr} {l : List UInt8} (h : BLies w a l) (hg : w.grownBy w' none) : BLies w' a l :=
  h.heap fun b _ _ hb => hg.block b hb (by simp)
theorem BLies.grownNe {w w' : World} {a : Option Addr} {l : List UInt8} {g : Nat} (h : BLies w a l) (hg : w.grownBy w' (some g)) (hne : ∀ b off, a = some ⟨b, off, none⟩ → b ≠ g) : BLies w' a l :=
  h.heap fun b off e hb => hg.block b hb (by have := hne b off e; simpa using this)
theorem BLies.drewN {w : World} {a : Option Addr} {l : List UInt8} (h : BLies w a l) (n : Nat) : BLies (w.drewN n) a l :=
  h.heap fun _ _ _ _ => by simp
theorem BLies.nil (w : World) (a : Option Addr) : BLies w a [] := fun k hk => absurd hk (by simp)
theorem BLies.take {w : World} {a : Option Addr} {l : List UInt8} (h : BLies w a l) (n : Nat) : BLies w a (l.take n) := by
  intro k hk
  obtain ⟨b, off, e, hc⟩ := h k (by simp at hk; omega)
  exact ⟨b, off, e, by rw [hc]; simp⟩

/-- a callee that leaves the world alone, as a drawing region asks it -/
theorem quietS {P : Program} {f : FuncId} {args : Array Value} {w : World} {n : Nat} {v : Value} (h : Calls P f args (w.drewN n) fun e w' => e = .returned v ∧ w.drewN n = w') : Calls P f args (w.drewN n) fun e w'' => e = .returned v ∧ ∃ m, w'' = w.drewN m :=
  Calls.quiet_of_same (h.mono fun _ _ ⟨he, hw⟩ => ⟨he, hw.symm⟩)

theorem quietS2 {P : Program} {f : FuncId} {args : Array Value} {w : World} {q n : Nat} {v : Value} (h : Calls P f args (w.drewN (q + n)) fun e w' => e = .returned v ∧ w.drewN (q + n) = w') : Calls P f args (w.drewN (q + n)) fun e w'' => e = .returned v ∧ ∃ m, w'' = w.drewN (q + m) :=
  h.mono fun _ _ ⟨he, hw⟩ => ⟨he, n, hw.symm⟩

/-- what a call may change: of the blocks that were there those in S alone; there may be new ones -/
structure Ch (S : Nat → Prop) (w w' : World) : Prop where
  os : w'.os = w.os
  tape : w'.tape = w.tape
  output : w'.output = w.output
  size : w.heap.size ≤ w'.heap.size
  block : ∀ k, k < w.heap.size → ¬ S k → w'.heap[k]? = w.heap[k]?

theorem Ch.refl (S : Nat → Prop) (w : World) : Ch S w w := ⟨rfl, rfl, rfl, Nat.le_refl _, fun _ _ _ => rfl⟩
theorem Ch.trans {S T : Nat → Prop} {a b c : World} (h : Ch S a b) (k : Ch T b c) (hT : ∀ i, i < a.heap.size → T i → S i) : Ch S a c :=
  ⟨k.os.trans h.os, k.tape.trans h.tape, k.output.trans h.output, Nat.le_trans h.size k.size, fun i hi hs => (k.block i (Nat.lt_of_lt_of_le hi h.size) (fun ht => hs (hT i hi ht))).trans (h.block i hi hs)⟩

end Go.Proofs.Ythemlaibjchjpaa
/- Rows that the call owns, and the laws of append over them: an append of any cells; an append of one value. -/
namespace Go.Proofs.Ythemlaibjchjpaa
open Go.RowKit

/-- what the program's table has of a slice type and its elements -/
structure El (P : Program) (t e : TypeId) (z : Value) (size bytes : Nat) : Prop where
  slice : P.underlying t = some (.slice e)
  info : ∃ i, P.info? e = some i ∧ i.zero = some z ∧ i.size = size ∧ i.bytes = bytes
  zs : z.cells.size = size
  pos : 0 < size

/-- the value '.slice a n c' owns the cells xs: it has no room at all, or it begins at the head of a block from 'base' on -/
def Own (w : World) (base : Nat) (e : TypeId) (size : Nat) (a : Option Addr) (n c : Nat) (xs : List Value) : Prop :=
  xs.length = n * size ∧ ((n = 0 ∧ c = 0) ∨
    ∃ g cur, a = some ⟨g, 0, none⟩ ∧ base ≤ g ∧ w.heap[g]? = some (.cells cur e (0, 0)) ∧ n ≤ c ∧ c ≤ maxLen ∧ cur.size = c * size ∧ cur.toList.take (n * size) = xs)

theorem Own.nil (w : World) (base : Nat) (e : TypeId) (size : Nat) (a : Option Addr) : Own w base e size a 0 0 [] := ⟨by simp, .inl ⟨rfl, rfl⟩⟩

theorem Own.cap {w : World} {base : Nat} {e : TypeId} {size : Nat} {a : Option Addr} {n c : Nat} {xs : List Value} (h : Own w base e size a n c xs) : n ≤ c ∧ c ≤ maxLen := by
  rcases h.2 with ⟨h0, h1⟩ | ⟨g, cur, ha, hb, hh, hn, hm, _⟩
  · subst h0; subst h1; unfold maxLen; omega
  · exact ⟨hn, hm⟩

theorem Own.block {w : World} {base : Nat} {e : TypeId} {size : Nat} {a : Option Addr} {n c : Nat} {xs : List Value} (h : Own w base e size a n c xs) (hc : 0 < c) : ∃ g, a = some ⟨g, 0, none⟩ ∧ base ≤ g ∧ g < w.heap.size := by
  rcases h.2 with ⟨_, h0⟩ | ⟨g, cur, ha, hb, hh, _⟩
  · omega
  · exact ⟨g, ha, hb, (Array.getElem?_eq_some_iff.1 hh).1⟩

/-- what is owned stays owned where its block stands -/
theorem Own.kept' {w w' : World} {base : Nat} {e : TypeId} {size : Nat} {a : Option Addr} {n c : Nat} {xs : List Value} (h : Own w base e size a n c xs) (hk : 0 < c → ∀ g, a = some ⟨g, 0, none⟩ → g < w.heap.size → w'.heap[g]? = w.heap[g]?) : Own w' base e size a n c xs := by
  refine ⟨h.1, ?_⟩
  rcases h.2 with h0 | ⟨g, cur, ha, hb, hh, hn, r⟩
  · exact .inl h0
  · by_cases hc : 0 < c
    · exact .inr ⟨g, cur, ha, hb, (hk hc g ha (Array.getElem?_eq_some_iff.1 hh).1).trans hh, hn, r⟩
    · exact .inl ⟨by omega, by omega⟩
theorem Own.kept {w w' : World} {base : Nat} {e : TypeId} {size : Nat} {a : Option Addr} {n c : Nat} {xs : List Value} (h : Own w base e size a n c xs) (hk : ∀ g, a = some ⟨g, 0, none⟩ → g < w.heap.size → w'.heap[g]? = w.heap[g]?) : Own w' base e size a n c xs :=
  h.kept' fun _ => hk

theorem Own.mono {w : World} {base base' : Nat} {e : TypeId} {size : Nat} {a : Option Addr} {n c : Nat} {xs : List Value} (h : Own w base e size a n c xs) (hb : base' ≤ base) : Own w base' e size a n c xs := by
  refine ⟨h.1, ?_⟩
  rcases h.2 with h0 | ⟨g, cur, ha, hbg, r⟩
  · exact .inl h0
  · exact .inr ⟨g, cur, ha, by omega, r⟩

/-- the cells of what is owned -/
theorem Own.cell {w : World} {base : Nat} {e : TypeId} {size : Nat} {a : Option Addr} {n c : Nat} {xs : List Value} (h : Own w base e size a n c xs) (k : Nat) (hk : k < xs.length) : ∃ g, a = some ⟨g, 0, none⟩ ∧ base ≤ g ∧ g < w.heap.size ∧ w.cell? ⟨g, k, none⟩ = some xs[k] ∧ w.frozen? ⟨g, k, none⟩ = false := by
  rcases h.2 with ⟨h0, _⟩ | ⟨g, cur, ha, hb, hh, hn, hm, hs, ht⟩
  · have := h.1; subst h0; simp at this; subst this; simp at hk
  · refine ⟨g, ha, hb, (Array.getElem?_eq_some_iff.1 hh).1, ?_, ?_⟩
    · have hl := h.1
      have e1 : (cur.toList.take (n * size))[k]? = xs[k]? := by rw [ht]
      rw [List.getElem?_take, if_pos (by omega), List.getElem?_eq_getElem hk] at e1
      simp only [World.cell?, hh]
      simpa using e1
    · simp [World.frozen?, hh]

/-- a store into what is owned -/
theorem Own.set {w : World} {base : Nat} {e : TypeId} {size : Nat} {g n c : Nat} {xs : List Value} (h : Own w base e size (some ⟨g, 0, none⟩) n c xs) (k : Nat) (hk : k < xs.length) (u : Value) : Own (w.setCell ⟨g, k, none⟩ u) base e size (some ⟨g, 0, none⟩) n c (xs.set k u) := by
  refine ⟨by rw [List.length_set]; exact h.1, ?_⟩
  rcases h.2 with ⟨h0, _⟩ | ⟨g', cur, ha, hb, hh, hn, hm, hs, ht⟩
  · have := h.1; subst h0; simp at this; subst this; simp at hk
  · obtain rfl : g = g' := by simpa using ha
    have hl := h.1
    refine .inr ⟨g, cur.setIfInBounds k u, rfl, hb, ?_, hn, hm, by simpa using hs, ?_⟩
    · simp only [World.setCell, Array.getElem?_modify, ↓reduceIte, hh, Option.map_some]
      simp
    · rw [Array.toList_setIfInBounds, List.take_set, ht]

theorem grownBy_setCell (w : World) (g k : Nat) (u : Value) : w.grownBy (w.setCell ⟨g, k, none⟩ u) (some g) :=
  ⟨rfl, rfl, rfl, by simp [World.setCell], fun i _ hr => Below.heap_setCell _ _ _ _ (by simpa using hr)⟩

/-- an array in a block of its own, its cells told -/
theorem own_array (w : World) (e : TypeId) (cs : Array Value) (n : Nat) (hn : cs.size = n) (hm : n ≤ maxLen) : Own (w.alloc (.cells cs e)) w.heap.size e 1 (some ⟨w.heap.size, 0, none⟩) n n cs.toList := by
  subst hn
  exact ⟨by simp, .inr ⟨w.heap.size, _, rfl, Nat.le_refl _, heap_alloc_new w _, Nat.le_refl _, hm, by simp, by rw [Nat.mul_one, List.take_of_length_le (by simp)]⟩⟩
/-- the whole of a block that is owned -/
theorem Own.whole {w : World} {base : Nat} {e : TypeId} {g n : Nat} {xs : List Value} (h : Own w base e 1 (some ⟨g, 0, none⟩) n n xs) (hn : 0 < n) : w.heap[g]? = some (.cells xs.toArray e (0, 0)) := by
  rcases h.2 with ⟨h0, _⟩ | ⟨g', cur, ha, hb, hh, hnn, hm, hs, ht⟩
  · omega
  · injection ha with ha; injection ha with ha
    subst ha
    rw [hh, ← ht, List.take_of_length_le (by simp; omega)]
theorem grownBy_setRow (w : World) (g : Nat) (cs : Array Value) : w.grownBy (w.setRow g cs) (some g) :=
  ⟨rfl, rfl, rfl, by simp, fun k _ hk => setRow_other w g k _ (fun e => hk (by simp [e]))⟩

/-- what an append has done to the world and the address: nothing; written into its own block; a new block -/
def GrewP (w w1 : World) (a : Option Addr) (c : Nat) (a' : Option Addr) (c' : Nat) : Prop :=
  (∃ g, a' = some ⟨g, 0, none⟩ ∧ a = a' ∧ 0 < c ∧ c' = c ∧ w.grownBy w1 (some g)) ∨ (∃ g, a' = some ⟨g, 0, none⟩ ∧ w.heap.size ≤ g ∧ w.grownBy w1 none)
def Grew (w w1 : World) (a : Option Addr) (c : Nat) (a' : Option Addr) (c' : Nat) : Prop := (a' = a ∧ c' = c ∧ w1 = w) ∨ GrewP w w1 a c a' c'
theorem GrewP.grew {w w1 : World} {a : Option Addr} {c : Nat} {a' : Option Addr} {c' : Nat} (h : GrewP w w1 a c a' c') : Grew w w1 a c a' c' := .inr h

theorem grownBy_trans {a b c : World} {row : Option Nat} (h : a.grownBy b row) (k : b.grownBy c row) : a.grownBy c row :=
  ⟨k.os.trans h.os, k.tape.trans h.tape, k.output.trans h.output, Nat.le_trans h.size k.size, fun i hi hr => (k.block i (Nat.lt_of_lt_of_le hi h.size) hr).trans (h.block i hi hr)⟩
theorem grownBy_none {a b : World} {row : Option Nat} (h : a.grownBy b row) (hr : ∀ g, row = some g → a.heap.size ≤ g) : a.grownBy b none :=
  ⟨h.os, h.tape, h.output, h.size, fun i hi _ => h.block i hi (fun e => by have := hr i e.symm; omega)⟩
theorem grownBy_some {a b : World} (h : a.grownBy b none) (row : Option Nat) : a.grownBy b row :=
  ⟨h.os, h.tape, h.output, h.size, fun i hi _ => h.block i hi (by simp)⟩
theorem grownBy_old {a b c : World} {g : Nat} (h : a.grownBy b none) (k : b.grownBy c (some g)) (hg : a.heap.size ≤ g) : a.grownBy c none :=
  grownBy_none (grownBy_trans (grownBy_some h (some g)) k) (by rintro g' ⟨⟩; exact hg)
theorem grownBy_al {a b : World} (h : a.grownBy b none) (o : Obj) : a.grownBy (b.alloc o) none := grownBy_trans h (World.grownBy_alloc b o none)
theorem grownBy_dr {a b : World} (h : a.grownBy b none) (n : Nat) : a.grownBy (b.drewN n) none := ⟨h.os, h.tape, h.output, h.size, h.block⟩
theorem grownBy_drewN (w : World) (n : Nat) (row : Option Nat) : w.grownBy (w.drewN n) row := ⟨rfl, rfl, rfl, Nat.le_refl _, fun _ _ _ => rfl⟩

theorem Grew.size {w w1 : World} {a : Option Addr} {c : Nat} {a' : Option Addr} {c' : Nat} (h : Grew w w1 a c a' c') : w.heap.size ≤ w1.heap.size := by
  rcases h with ⟨_, _, rfl⟩ | ⟨g, _, _, _, _, h⟩ | ⟨g, _, _, h⟩
  · exact Nat.le_refl _
  · exact h.size
  · exact h.size

/-- of what lay before the base nothing has turned -/
theorem Grew.grown {w0 w w1 : World} {base : Nat} {e : TypeId} {size : Nat} {a : Option Addr} {n c : Nat} {xs : List Value} {a' : Option Addr} {c' : Nat} (h : Grew w w1 a c a' c') (ho : Own w base e size a n c xs) (hg : w0.grownBy w none) (hb : w0.heap.size ≤ base) : w0.grownBy w1 none := by
  rcases h with ⟨_, _, rfl⟩ | ⟨g, ha, rfl, hc, _, h⟩ | ⟨g, _, _, h⟩
  · exact hg
  · obtain ⟨g', he, hb', _⟩ := ho.block hc
    rw [ha] at he
    obtain rfl : g = g' := by simpa using he
    exact grownBy_old hg h (by omega)
  · exact grownBy_trans hg h

/-- another row stays -/
theorem Grew.other {w w1 : World} {a : Option Addr} {c : Nat} {a' : Option Addr} {c' : Nat} (h : Grew w w1 a c a' c') (k : Nat) (hk : k < w.heap.size) (hne : ∀ g, 0 < c → a = some ⟨g, 0, none⟩ → k ≠ g) : w1.heap[k]? = w.heap[k]? := by
  rcases h with ⟨_, _, rfl⟩ | ⟨g, ha, rfl, hc, _, h⟩ | ⟨g, _, _, h⟩
  · rfl
  · exact h.block k hk (by have := hne g hc ha; simpa using this)
  · exact h.block k hk (by simp)

section
variable {P : Program}

theorem run_app (w : World) {t ty e : TypeId} {z : Value} {size bytes : Nat} (H : El P t e z size bytes) {base : Nat} {a : Option Addr} {n c : Nat} {xs : List Value} (hown : Own w base e size a n c xs)
    (ad : Addr) (m c2 : Nat) (news : List Value) (hl : news.length = m * size) (hnews : ∀ j u, news[j]? = some u → w.cell? (ad.add j) = some u) (h1 : ∀ u ∈ news, u.oneCell' = true)
    (h63 : n + m ≤ maxLen) (hbytes : (n + m) * bytes ≤ 140737488355328) (hbase : base ≤ w.heap.size) (hnil : a = none → c = 0 → n = 0 → True) (hm : 0 < m) :
    ∃ g c' w1, (Builtin.append_ #[t, t] ty #[.slice a n c, .slice (some ad) m c2]).run P w = .ok (.slice (some ⟨g, 0, none⟩) (n + m) c') w1 ∧ Own w1 base e size (some ⟨g, 0, none⟩) (n + m) c' (xs ++ news) ∧ GrewP w w1 a c (some ⟨g, 0, none⟩) c' := by
  obtain ⟨ht, ⟨i, hi, hz, rfl, rfl⟩, hzs, hsz⟩ := H
  have hsmall : n + m ≤ 9223372036854775807 := by simp only [maxLen] at h63; omega
  have hlen : (xs ++ news).length = (n + m) * i.size := by rw [List.length_append, hown.1, hl, Nat.add_mul]
  have grown : ∀ (old : Nat), old < n + m →
      Own (w.drew.alloc (.cells (xs.toArray ++ news.toArray ++ Builtin.zeroCells z.cells (grownCap w (n + m) old e - (n + m))) e)) base e i.size
        (some ⟨w.heap.size, 0, none⟩) (n + m) (grownCap w (n + m) old e) (xs ++ news) ∧
      w.grownBy (w.drew.alloc (.cells (xs.toArray ++ news.toArray ++ Builtin.zeroCells z.cells (grownCap w (n + m) old e - (n + m))) e)) none := by
    intro old ho
    have hge := grownCap_ge w (n + m) old e
    have hcm : grownCap w (n + m) old e ≤ maxLen := grownCap_le_maxLen w (n + m) old e h63
    refine ⟨⟨hlen, .inr ⟨w.heap.size, _, rfl, hbase, heap_alloc_new w.drew _, hge, hcm, ?_, ?_⟩⟩, ⟨rfl, rfl, rfl, by simp, fun k hk _ => Below.heap_alloc w.drew _ k hk⟩⟩
    · simp only [Array.size_append, List.size_toArray, size_zeroCells, hzs, hown.1, hl, ← Nat.add_mul]
      congr 1
      omega
    · simp only [Array.toList_append, List.append_assoc]
      rw [← List.append_assoc, ← hlen]
      exact List.take_left
  rcases hown.2 with ⟨rfl, rfl⟩ | ⟨g, cur, rfl, hbg, hg, hnc, hcm, hcs, htake⟩
  · have hx : xs = [] := List.eq_nil_of_length_eq_zero (by simpa using hown.1)
    subst hx
    have hgr := grown 0 (by omega)
    cases a with
    | none =>
      have hr := run_append_nil (P := P) w t ty e i z ht hi hz ad m c2 news hl hnews hm (by omega) (by have hb := hbytes; simp only [Nat.zero_add] at hb; omega)
      simp only [Nat.zero_add, List.nil_append, Array.empty_append] at hgr ⊢
      exact ⟨_, _, _, hr, hgr.1, .inr ⟨_, rfl, Nat.le_refl _, hgr.2⟩⟩
    | some b =>
      have hr := run_append_grow (P := P) w t ty e i z ht hi hz b 0 0 [] (by simp) (by simp) ad m c2 news hl hnews (by omega) (by omega) (growslice_fits (by omega) hbytes)
      exact ⟨_, _, _, hr, hgr.1, .inr ⟨_, rfl, Nat.le_refl _, hgr.2⟩⟩
  · by_cases hroom : n + m ≤ c
    · have hfit : n * i.size + news.length ≤ cur.size := by rw [hl, hcs, ← Nat.add_mul]; exact Nat.mul_le_mul_right _ hroom
      have hr := run_append_room (P := P) w t ty e i ht hi g n c cur hg ad m c2 news hl hnews h1 hroom hfit
      refine ⟨_, _, _, hr, ⟨hlen, .inr ⟨g, _, rfl, hbg, setRow_heap w g cur _ e _ hg, hroom, hcm, ?_, ?_⟩⟩, .inl ⟨g, rfl, rfl, by omega, rfl, ⟨rfl, rfl, rfl, by simp, fun k _ hk => setRow_other w g k _ (fun e => hk (by simp [e]))⟩⟩⟩
      · simp only [List.size_toArray, List.length_append, List.length_take, List.length_drop, Array.length_toList]
        omega
      · rw [htake, ← hlen]
        exact List.take_left
    · have holds : ∀ j u, xs[j]? = some u → w.cell? ((⟨g, 0, none⟩ : Addr).add j) = some u := by
        intro j u hu
        have hadd : (⟨g, 0, none⟩ : Addr).add j = ⟨g, j, none⟩ := by unfold Addr.add; split <;> simp_all
        obtain ⟨hj, rfl⟩ := List.getElem?_eq_some_iff.1 hu
        obtain ⟨g', e1, _, _, hc, _⟩ := hown.cell j hj
        obtain rfl : g = g' := by simpa using e1
        rw [hadd]; exact hc
      have hr := run_append_grow (P := P) w t ty e i z ht hi hz ⟨g, 0, none⟩ n c xs hown.1 holds ad m c2 news hl hnews (by omega) (by omega) (growslice_fits (by omega) hbytes)
      have hgr := grown c (by omega)
      exact ⟨_, _, _, hr, hgr.1, .inr ⟨_, rfl, Nat.le_refl _, hgr.2⟩⟩

/-- append of cells that lie somewhere (there is at least one) -/
theorem wpList_app {w : World} {ops : Array Oper} {rest : List Oper} {o : Oper} {act : Act} {Q : Exit → Act → World → Prop} {t e : TypeId} {z : Value} {size bytes : Nat} (H : El P t e z size bytes)
    (hgd : o.guard = none) (s x : Operand) (ho : o.op = .call { callee := .builtin .append, args := #[s, x], argTypes := #[t, t] })
    {base : Nat} {a : Option Addr} {n c : Nat} {xs : List Value} (hs : act.eval s = .slice a n c) (hown : Own w base e size a n c xs)
    (ad : Addr) (m c2 : Nat) (news : List Value) (hx : act.eval x = .slice (some ad) m c2) (hl : news.length = m * size) (hnews : ∀ j u, news[j]? = some u → w.cell? (ad.add j) = some u) (h1 : ∀ u ∈ news, u.oneCell' = true)
    (h63 : n + m ≤ maxLen) (hbytes : (n + m) * bytes ≤ 140737488355328) (hbase : base ≤ w.heap.size) (hm : 0 < m)
    (h : ∀ g c' w1, Own w1 base e size (some ⟨g, 0, none⟩) (n + m) c' (xs ++ news) → GrewP w w1 a c (some ⟨g, 0, none⟩) c' → wpList P ops Q rest (act.put o.dst (.slice (some ⟨g, 0, none⟩) (n + m) c')) w1) : wpList P ops Q (o :: rest) act w := by
  refine wpList_plain hgd fun K hK => ?_
  obtain ⟨g, c', w1, hr, h2, h3⟩ := run_app (P := P) (ty := o.type) w H hown ad m c2 news hl hnews h1 h63 hbytes hbase (fun _ _ _ => trivial) hm
  unfold Oper.wp execOp
  simp only [ho, resolve, invoke, builtin, Sem.run_bind, Sem.run_pure, Result.andThen_ok, List.map_toArray, List.map_cons, List.map_nil, hs, hx, hr]
  exact hK _ _ (h g c' w1 h2 h3)

/-- append of one value of one cell: the translation has just laid it in a block of its own -/
theorem wpList_push {w : World} {ops : Array Oper} {rest : List Oper} {o : Oper} {act : Act} {Q : Exit → Act → World → Prop} {t e : TypeId} {z : Value} {bytes : Nat} (H : El P t e z 1 bytes)
    (hgd : o.guard = none) (s x : Operand) (ho : o.op = .call { callee := .builtin .append, args := #[s, x], argTypes := #[t, t] })
    {base : Nat} {a : Option Addr} {n c : Nat} {xs : List Value} (hs : act.eval s = .slice a n c) (hown : Own w base e 1 a n c xs)
    (u : Value) (hx : act.eval x = .slice (some ⟨w.heap.size, 0, none⟩) 1 1) (h1 : u.oneCell' = true)
    (h63 : n + 1 ≤ maxLen) (hbytes : (n + 1) * bytes ≤ 140737488355328) (hbase : base ≤ w.heap.size)
    (h : ∀ g c' w1, Own w1 base e 1 (some ⟨g, 0, none⟩) (n + 1) c' (xs ++ [u]) → GrewP w w1 a c (some ⟨g, 0, none⟩) c' → wpList P ops Q rest (act.put o.dst (.slice (some ⟨g, 0, none⟩) (n + 1) c')) w1) : wpList P ops Q (o :: rest) act (w.alloc (.cells #[u] e)) := by
  have hga : w.grownBy (w.alloc (.cells #[u] e)) none := World.grownBy_alloc w _ none
  refine wpList_app H hgd s x ho hs (hown.kept fun g _ hg => hga.block g hg (by simp)) ⟨w.heap.size, 0, none⟩ 1 1 [u] hx (by simp) (cell_one_new _ _ _) (by simpa using h1) h63 hbytes (by have := hga.size; omega) (by omega) ?_
  intro g c' w1 h2 h3
  refine h g c' w1 h2 ?_
  rcases h3 with ⟨g', e1, e2, hc, hcc, hg⟩ | ⟨g', e1, hs', hg⟩
  · exact .inl ⟨g', e1, e2, hc, hcc, grownBy_trans (grownBy_some hga _) hg⟩
  · exact .inr ⟨g', e1, by have := hga.size; omega, grownBy_trans hga hg⟩
end

end Go.Proofs.Ythemlaibjchjpaa
/- What came in, as the walks want it: bytes that lie in memory; and what the bound on bulk says of a length. -/
namespace Go.Proofs.Ythemlaibjchjpaa
open Go.ChangeShapes Go.WideShapes Go.ChangeAt Go.RowKit

theorem ownKnobT : ownKnob Try.prog.godebug = none := by kernel_rfl
theorem laidOutT : laidOutB Try.prog = true := by kernel_rfl

theorem bulk_pos {H : Type} (d : DataW H) : 1 ≤ Rows.uptoBulk d := by
  cases d with
  | lit l => cases l <;> simp [Rows.uptoBulk]
  | nil => simp [Rows.uptoBulk]
  | ptr d => simp [Rows.uptoBulk]
  | slice elems spare => simp [Rows.uptoBulk]
  | agg parts => simp [Rows.uptoBulk]
  | iface t d => simp [Rows.uptoBulk]
  | map entries => simp [Rows.uptoBulk]
  | held h => simp [Rows.uptoBulk]
theorem bulk_length {H : Type} (l : List (DataW H)) : l.length ≤ Rows.uptoBulkAll l := by
  induction l with
  | nil => simp [Rows.uptoBulkAll]
  | cons x r ih => have := bulk_pos x; simp only [Rows.uptoBulkAll, List.length_cons]; omega
theorem bulk_small {H : Type} {l : List (DataW H)} (hk : Rows.uptoSmall H l = true) : Rows.uptoBulkAll l ≤ 1048576 := of_decide_eq_true hk
theorem bulk_slice {H : Type} (elems spare : List (DataW H)) : Rows.uptoBulkAll elems + 1 ≤ Rows.uptoBulk (.slice elems spare) := by
  simp only [Rows.uptoBulk]; omega
theorem bulk_app {H : Type} (l r : List (DataW H)) : Rows.uptoBulkAll (l ++ r) = Rows.uptoBulkAll l + Rows.uptoBulkAll r := by
  induction l with
  | nil => simp [Rows.uptoBulkAll]
  | cons x l ih => simp only [List.cons_append, Rows.uptoBulkAll, ih]; omega

theorem u8_of_wf {n : Int} (h : (Lit.int .u8 n).wf = true) : ((UInt8.ofNat n.toNat).toNat : Int) = n := by
  have h' : 0 ≤ n ∧ n ≤ 255 := by simpa [Lit.wf, IntKind.min, IntKind.max, IntKind.signed, IntKind.bits] using h
  rw [UInt8.toNat_ofNat']
  omega

/-- a slice of bytes that came in -/
theorem rd_bytes {H : Type} {enc : TypeId × Value → H} {W : World} {base : Nat} {spare : Nat → Bool} {held : Bool} {fuel : Nat} {a : Option Addr} {len cap : Nat} {d : DataW H} {p : List MemPlace}
    (h : DataW.trod enc Try.prog W base spare held fuel 22 [.slice a len cap] = some (d, p)) : ∃ l : List UInt8, l.length = len ∧ BLies W a l ∧ len + 1 ≤ Rows.uptoBulk d ∧ len ≤ cap ∧ cap ≤ maxLen := by
  rcases open_ints Try.underlying22 Try.underlying5 (by kernel_rfl) h with ⟨hcs, hx⟩ | ⟨x, len', cap', zs, hcs, _, hl, hm, hz, hx, hcell, hwz⟩
  · simp at hcs
    obtain ⟨rfl, rfl, rfl⟩ := hcs
    injection hx with hx _
    subst hx
    exact ⟨[], rfl, BLies.nil _ _, by simp [Rows.uptoBulk], Nat.le_refl _, by unfold maxLen; omega⟩
  · simp at hcs
    obtain ⟨rfl, rfl, rfl⟩ := hcs
    injection hx with hx _
    subst hx
    have hzl : len ≤ zs.length := by rw [hz]; split <;> omega
    refine ⟨(zs.take len).map fun z => UInt8.ofNat z.toNat, by simp; omega, ?_, ?_, hl, hm⟩
    · intro k hk
      have hk' : k < zs.length := by simp at hk; omega
      obtain ⟨b, off, rfl, hc⟩ := ints_at hcell (by omega)
      refine ⟨b, off, rfl, ?_⟩
      rw [hc k hk']
      have e : zs.getD k 0 = zs[k] := by simp [hk']
      rw [e]
      simp only [List.getElem_map, List.getElem_take]
      rw [u8_of_wf (hwz _ (List.getElem_mem _))]
    · have h1 := bulk_slice (H := H) (lits .u8 (zs.take len)) (lits .u8 (zs.drop len))
      have h2 := bulk_length (H := H) (lits .u8 (zs.take len))
      have h3 : (lits (H := H) .u8 (zs.take len)).length = len := by simp [lits]; omega
      omega

theorem u64_of_wf {n : Int} (h : (Lit.int .u64 n).wf = true) : ∃ m : Nat, n = m ∧ m < 18446744073709551616 := by
  have h' : 0 ≤ n ∧ n ≤ 18446744073709551615 := by simpa [Lit.wf, IntKind.min, IntKind.max, IntKind.signed, IntKind.bits] using h
  exact ⟨n.toNat, by omega, by omega⟩
theorem i64_of_wf {n : Int} (h : (Lit.int .i64 n).wf = true) : -9223372036854775808 ≤ n ∧ n ≤ 9223372036854775807 := by
  simpa [Lit.wf, IntKind.min, IntKind.max, IntKind.signed, IntKind.bits] using h
theorem byte_of_wf {n : Int} (h : (Lit.int .u8 n).wf = true) : ∃ m : UInt8, n = (m.toNat : Int) := ⟨_, (u8_of_wf h).symm⟩

theorem grown_all {w w' : World} (h : w.grownBy w' none) : Below w.heap.size w w' := ⟨h.os, h.tape, h.output, h.size, fun k hk => h.block k hk (by simp)⟩

end Go.Proofs.Ythemlaibjchjpaa
/- strongroomkit.markBytes, SameBytes. -/
namespace Go.Proofs.Ythemlaibjchjpaa
open Go.RowKit

/-- the mark of place i of list k -/
def mrk (k i : Int) : UInt8 := UInt8.ofNat ((151 * k + 7 * i + 1) % 256).toNat
theorem mrk_toNat (k i : Int) : ((mrk k i).toNat : Int) = (151 * k + 7 * i + 1) % 256 := by
  unfold mrk
  rw [UInt8.toNat_ofNat']
  omega

set_option maxHeartbeats 400000 in
theorem mark_any (k i : Int) (w : World) (hk : 0 ≤ k ∧ k ≤ 1000000000) (hi : 0 ≤ i ∧ i ≤ 1000000000000) :
    Calls Try.prog 59 #[.int .i64 k, .int .i64 i] w fun e w' => e = .returned (.int .u8 ((mrk k i).toNat : Int)) ∧ w = w' := by
  obtain ⟨k1, k2⟩ := hk
  obtain ⟨i1, i2⟩ := hi
  rw [mrk_toNat]
  go_enter Try.func59, Try.ntmps59
  go_wp2
  go_ret
  exact ⟨rfl, rfl⟩

theorem ret_bool {a b : Bool} (h : a = b) : Ending.returned (.bool a) = .returned (.bool b) := by rw [h]

theorem take_step {l m : List UInt8} {k : Nat} (hl : k < l.length) (hm : k < m.length) (h : l.take k = m.take k) (e : l[k] = m[k]) : l.take (k + 1) = m.take (k + 1) := by
  rw [List.take_succ_eq_append_getElem hl, List.take_succ_eq_append_getElem hm, h, e]

set_option maxHeartbeats 400000 in
theorem same_any (a a' : Option Addr) (c c' : Nat) (la lb : List UInt8) (w : World) (ha : BLies w a la) (hb : BLies w a' lb) (hn : la.length ≤ maxLen) :
    Calls Try.prog 19 #[.slice a la.length c, .slice a' lb.length c'] w fun e w' => e = .returned (.bool (decide (la = lb))) ∧ ∃ n, w' = w.drewN n := by
  unfold maxLen at hn
  have HA : Hid (BLies w a la) := ha
  have HB : Hid (BLies w a' lb) := hb
  clear ha hb
  by_cases hl : la.length = lb.length
  · have hlb : ((la.length : Int) != (lb.length : Int)) = false := by simp [hl]
    have HL : Hid (la.length = lb.length) := hl
    clear hl
    go_enter Try.func19, Try.ntmps19
    go_wp2
    go_loopw [5] (fun i wr => ∃ k n : Nat, k ≤ la.length ∧ i = .int .i64 k ∧ wr = w.drewN n ∧ la.take k = lb.take k) (fun i _ => la.length - (intOf i).toNat)
    case atStart => exact ⟨0, 0, by omega, rfl, rfl, by simp⟩
    case round =>
      obtain ⟨k, n, hk, rfl, rfl, ht⟩ := hrel
      have HT : Hid (la.take k = lb.take k) := ht
      clear ht
      by_cases hlt : k < la.length
      · have hlt2 : k < lb.length := by have := HL.out; omega
        obtain ⟨b, off, rfl, hc⟩ := HA.out k hlt
        obtain ⟨b', off', rfl, hc'⟩ := HB.out k hlt2
        by_cases he : la[k] = lb[k]
        · have hbn : (((la[k]).toNat : Int) != ((lb[k]).toNat : Int)) = false := by simp [he]
          go_wp2
          go_quiet (fail)
          go_wp2
          go_roundw
          case rel => exact ⟨k + 1, n + nq, by omega, by go_num, by simp, take_step hlt hlt2 HT.out he⟩
          case measure => simp [intOf]; omega
        · have hbn : (((la[k]).toNat : Int) != ((lb[k]).toNat : Int)) = true := by
            rw [bne_iff_ne]
            intro h
            exact he (UInt8.toNat_inj.1 (by omega))
          go_wp2
          go_quiet (fail)
          go_wp2
          go_ret
          exact ⟨ret_bool (by rw [eq_comm, decide_eq_false_iff_not]; rintro rfl; exact he rfl), n + nq, by simp⟩
      · go_wp2
        go_ret
        exact ⟨ret_bool (by have h1 := HT.out; have h2 := HL.out; rw [eq_comm, decide_eq_true_iff]; rwa [List.take_of_length_le (by omega), List.take_of_length_le (by omega)] at h1), _, rfl⟩
  · have hlb : ((la.length : Int) != (lb.length : Int)) = true := by rw [bne_iff_ne]; omega
    go_enter Try.func19, Try.ntmps19
    go_wp2
    go_ret
    exact ⟨ret_bool (by rw [eq_comm, decide_eq_false_iff_not]; rintro rfl; exact hl rfl), 0, rfl⟩

theorem same_n (a a' : Option Addr) (c c' n n' : Nat) (la lb : List UInt8) (w : World) (ha : BLies w a la) (hb : BLies w a' lb) (hla : la.length = n) (hlb : lb.length = n') (hn : n ≤ maxLen) :
    Calls Try.prog 19 #[.slice a n c, .slice a' n' c'] w fun e w' => e = .returned (.bool (decide (la = lb))) ∧ ∃ n, w' = w.drewN n := by
  subst hla; subst hlb
  exact same_any a a' c c' la lb w ha hb hn
/-- two lists that are the same -/
theorem same_yes (a a' : Option Addr) (c c' n n' : Nat) (la : List UInt8) (w : World) (ha : BLies w a la) (hb : BLies w a' la) (hla : la.length = n) (hlb : la.length = n') (hn : n ≤ maxLen) :
    Calls Try.prog 19 #[.slice a n c, .slice a' n' c'] w fun e w' => e = .returned (.bool true) ∧ ∃ n, w' = w.drewN n :=
  (same_n a a' c c' n n' la la w ha hb hla hlb hn).mono fun e w' ⟨h1, h2⟩ => ⟨by rw [h1]; simp, h2⟩

end Go.Proofs.Ythemlaibjchjpaa
/- strongroomkit.LentBytes: the list, and marks behind it, in memory of its own. -/
namespace Go.Proofs.Ythemlaibjchjpaa
open Go.RowKit

/-- what LentBytes gives of a list: the list, and the marks behind it -/
def marks (n m : Nat) : List UInt8 := (List.range m).map fun (i : Nat) => mrk 0 ((n : Int) + (i : Int))
def lent (l : List UInt8) : List UInt8 := l ++ marks l.length 70
theorem marks_succ (n m : Nat) : marks n (m + 1) = marks n m ++ [mrk 0 ((n : Int) + (m : Int))] := by simp [marks, List.range_succ]
theorem marks_length (n m : Nat) : (marks n m).length = m := by simp [marks]
theorem lent_length (l : List UInt8) : (lent l).length = l.length + 70 := by simp [lent, marks_length]

/-- bytes that are owned -/
def BOwn (w : World) (base : Nat) (a : Option Addr) (n c : Nat) (l : List UInt8) : Prop := Own w base 5 1 a n c (l.map bval)

theorem BOwn.len {w : World} {base : Nat} {a : Option Addr} {n c : Nat} {l : List UInt8} (h : BOwn w base a n c l) : l.length = n := by
  have := h.1; simpa using this

theorem BOwn.cap {w : World} {base : Nat} {a : Option Addr} {n c : Nat} {l : List UInt8} (h : BOwn w base a n c l) : n ≤ c ∧ c ≤ maxLen := Own.cap h

theorem BOwn.lies {w : World} {base : Nat} {a : Option Addr} {n c : Nat} {l : List UInt8} (h : BOwn w base a n c l) : BLies w a l := by
  intro k hk
  obtain ⟨g, e, _, _, hc, _⟩ := Own.cell h k (by simpa using hk)
  exact ⟨g, 0, e, by rw [Nat.zero_add, hc]; simp [bval]⟩

theorem elB : El Try.prog 22 5 (.int .u8 0) 1 1 :=
  ⟨Try.underlying22, info_parts (by kernel_rfl), rfl, by decide⟩

theorem BLies.news {w : World} {b off : Nat} {l : List UInt8} (h : BLies w (some ⟨b, off, none⟩) l) : ∀ j u, (l.map bval)[j]? = some u → w.cell? ((⟨b, off, none⟩ : Addr).add j) = some u := by
  intro j u hu
  obtain ⟨hj, rfl⟩ := List.getElem?_eq_some_iff.1 hu
  obtain ⟨b', off', e, hc⟩ := h j (by simpa using hj)
  injection e with e; injection e with e1 e2
  subst e1; subst e2
  rw [Addr.add_lit, hc]
  simp [bval]
theorem BLies.addr {w : World} {a : Option Addr} {l : List UInt8} (h : BLies w a l) (hl : 0 < l.length) : ∃ b off, a = some ⟨b, off, none⟩ := by
  obtain ⟨b, off, e, _⟩ := h 0 hl
  exact ⟨b, off, e⟩
theorem bval_one (l : List UInt8) : ∀ u ∈ l.map bval, u.oneCell' = true := by
  intro u hu
  obtain ⟨x, _, rfl⟩ := List.mem_map.1 hu
  rfl

theorem map_take_succ {l : List UInt8} {k : Nat} (h : k < l.length) : (l.take (k + 1)).map bval = (l.take k).map bval ++ [.int .u8 ((l[k]).toNat : Int)] := by
  rw [List.take_succ_eq_append_getElem h, List.map_append]; rfl

set_option maxRecDepth 100000 in
set_option maxHeartbeats 1000000 in
theorem lent_any (a : Option Addr) (c : Nat) (l : List UInt8) (w : World) (ha : BLies w a l) (hn : l.length ≤ 4000000000) :
    Calls Try.prog 14 #[.slice a l.length c] w fun e w' => ∃ g cap, e = .returned (.slice (some ⟨g, 0, none⟩) (l.length + 70) cap) ∧ BOwn w' w.heap.size (some ⟨g, 0, none⟩) (l.length + 70) cap (lent l) ∧ w.grownBy w' none := by
  have HA : Hid (BLies w a l) := ha
  clear ha
  go_enter Try.func14, Try.ntmps14
  go_wp2
  go_loopw [3, 4] (fun v i wr => ∃ (k : Nat) (a' : Option Addr) (c' : Nat), k ≤ l.length ∧ i = .int .i64 k ∧ v = .slice a' k c' ∧ BOwn wr w.heap.size a' k c' (l.take k) ∧ w.grownBy wr none) (fun _ i _ => l.length - (intOf i).toNat)
  case atStart => exact ⟨0, none, 0, by omega, rfl, rfl, Own.nil _ _ _ _ _, World.grownBy.refl _ _⟩
  case round =>
    obtain ⟨k, a', c', hk, rfl, rfl, hown, hg⟩ := hrel
    by_cases hlt : k < l.length
    · obtain ⟨b, off, rfl, hc⟩ := HA.out k hlt
      have hc' : wr.cell? ⟨b, off + k, none⟩ = some (.int .u8 ((l[k]).toNat : Int)) := hg.cell hc (by simp)
      have hsz := hg.size
      go_wp2_with (at_builtin; refine wpList_push elB rfl (.tmp 12) (.tmp 17) rfl rfl hown (.int .u8 ((l[k]).toNat : Int)) rfl rfl (by unfold maxLen; omega) (by omega) hsz ?_; intro g cap w1 hown1 hgr)
      go_roundw
      case rel => exact ⟨k + 1, _, _, by omega, by go_num, rfl, by unfold BOwn; rw [map_take_succ hlt]; exact hown1, hgr.grew.grown hown hg (Nat.le_refl _)⟩
      case measure => simp [intOf]; omega
    · obtain rfl : k = l.length := by omega
      go_wp2
      go_loopw [3, 5] (fun v i wr => ∃ (k : Nat) (a' : Option Addr) (c' : Nat), k ≤ 70 ∧ i = .int .i64 k ∧ v = .slice a' (l.length + k) c' ∧ BOwn wr w.heap.size a' (l.length + k) c' (l ++ marks l.length k) ∧ w.grownBy wr none) (fun _ i _ => 70 - (intOf i).toNat)
      case atStart => exact ⟨0, _, _, by omega, rfl, rfl, by simpa [marks] using hown, hg⟩
      case round =>
        obtain ⟨k, a', c', hk, rfl, rfl, hown, hg⟩ := hrel
        have hsz := hg.size
        by_cases hlt : k < 70
        · go_wp2_with (first | (go_at_call 59; refine (mark_any _ _ _ (by omega) (by omega)).mono ?_; rintro e w' ⟨rfl, rfl⟩) | (at_builtin; refine wpList_push elB rfl (.tmp 23) (.tmp 29) rfl rfl hown (.int .u8 ((mrk 0 ((l.length : Int) + (k : Int))).toNat : Int)) rfl rfl (by unfold maxLen; omega) (by omega) hsz ?_; intro g cap w1 hown1 hgr))
          go_roundw
          case rel => exact ⟨k + 1, _, _, by omega, by go_num, rfl, by unfold BOwn; rw [marks_succ, ← List.append_assoc, List.map_append]; exact hown1, hgr.grew.grown hown hg (Nat.le_refl _)⟩
          case measure => simp [intOf]; omega
        · obtain rfl : k = 70 := by omega
          go_wp2
          go_ret
          obtain ⟨g, rfl, _⟩ := hown.block (by have := hown.2; omega)
          exact ⟨g, c', rfl, hown, hg⟩

theorem lent_n (a : Option Addr) (c n : Nat) (l : List UInt8) (w : World) (ha : BLies w a l) (hl : l.length = n) (hn : n ≤ 4000000000) :
    Calls Try.prog 14 #[.slice a n c] w fun e w' => ∃ g cap, e = .returned (.slice (some ⟨g, 0, none⟩) (n + 70) cap) ∧ BOwn w' w.heap.size (some ⟨g, 0, none⟩) (n + 70) cap (lent l) ∧ w.grownBy w' none := by
  subst hl
  exact lent_any a c l w ha hn

theorem lent_take (l : List UInt8) (n : Nat) (h : l.length = n) : (lent l).take n = l := by
  subst h; simp [lent]

end Go.Proofs.Ythemlaibjchjpaa
/- strongroomkit.KeptBytes, OverBytes. -/
namespace Go.Proofs.Ythemlaibjchjpaa
open Go.RowKit

set_option maxRecDepth 100000 in
set_option maxHeartbeats 1000000 in
theorem kept_any (a a' : Option Addr) (c c' : Nat) (lf l : List UInt8) (w : World) (hf : BLies w a lf) (hl : BLies w a' l) (hn : l.length ≤ 4000000000) (hm : lf.length ≤ maxLen) :
    Calls Try.prog 16 #[.slice a lf.length c, .slice a' l.length c'] w fun e w' => e = .returned (.bool (decide (lf = lent l))) ∧ w.grownBy w' none := by
  have HF : Hid (BLies w a lf) := hf
  have HL : Hid (BLies w a' l) := hl
  have e70 : l.length + 70 = (lent l).length := (lent_length l).symm
  have HE : Hid (l.length + 70 = (lent l).length) := e70
  clear hf hl e70
  go_enter Try.func16, Try.ntmps16
  go_wp2_with fail
  refine (lent_any _ _ _ _ HL.out hn).mono ?_
  rintro e w1 ⟨g, cap, rfl, hown, hg⟩
  go_wp2_with fail
  rw [HE.out]
  refine (same_any _ _ _ _ _ _ _ (HF.out.grown hg) hown.lies hm).mono ?_
  rintro e w2 ⟨rfl, n, rfl⟩
  go_wp2_with fail
  go_ret
  exact ⟨rfl, grownBy_trans hg (grownBy_drewN _ _ _)⟩

/-- what OverBytes leaves -/
def over (n : Nat) : List UInt8 := (List.range n).map fun (i : Nat) => mrk 7 ((i : Int) + 3)
theorem over_succ (n : Nat) : over (n + 1) = over n ++ [mrk 7 ((n : Int) + 3)] := by simp [over, List.range_succ]
theorem over_length (n : Nat) : (over n).length = n := by simp [over]

theorem over_step {k : Nat} {l : List UInt8} (h : k < l.length) : ((over k ++ l.drop k).map bval).set k (.int .u8 ((mrk 7 ((k : Int) + 3)).toNat : Int)) = (over (k + 1) ++ l.drop (k + 1)).map bval := by
  have e1 : l.drop k = l[k] :: l.drop (k + 1) := by simp
  rw [e1, over_succ, List.map_append, List.map_cons, List.set_append_right _ _ (by simp [over_length])]
  simp [over_length, bval]

set_option maxRecDepth 100000 in
set_option maxHeartbeats 1000000 in
theorem over_any (base g c : Nat) (l : List UInt8) (w : World) (ho : BOwn w base (some ⟨g, 0, none⟩) l.length c l) (hn : l.length ≤ 4000000100) :
    Calls Try.prog 18 #[.slice (some ⟨g, 0, none⟩) l.length c] w fun e w' => e = .returned (.tuple #[]) ∧ BOwn w' base (some ⟨g, 0, none⟩) l.length c (over l.length) ∧ w.grownBy w' (some g) := by
  go_enter Try.func18, Try.ntmps18
  go_wp2
  go_loopw [2] (fun i wr => ∃ k : Nat, k ≤ l.length ∧ i = .int .i64 k ∧ BOwn wr base (some ⟨g, 0, none⟩) l.length c (over k ++ l.drop k) ∧ w.grownBy wr (some g)) (fun i _ => l.length - (intOf i).toNat)
  case atStart => exact ⟨0, by omega, rfl, by simpa [over] using ho, World.grownBy.refl _ _⟩
  case round =>
    obtain ⟨k, hk, rfl, hown, hg⟩ := hrel
    by_cases hlt : k < l.length
    · obtain ⟨g', e1, _, _, hc, hf⟩ := Own.cell hown k (by simp [over_length]; omega)
      obtain rfl : g = g' := by simpa using e1
      clear e1
      have hset := Own.set hown k (by simp [over_length]; omega) (.int .u8 ((mrk 7 ((k : Int) + 3)).toNat : Int))
      rw [over_step hlt] at hset
      obtain ⟨u0, hu0⟩ : ∃ u0, wr.cell? ⟨g, k, none⟩ = some u0 := ⟨_, hc⟩
      clear hc
      go_wp2_with (go_at_call 59; refine (mark_any _ _ _ (by omega) (by omega)).mono ?_; rintro e w' ⟨rfl, rfl⟩)
      go_roundw
      case rel => exact ⟨k + 1, by omega, by go_num, hset, grownBy_trans hg (grownBy_setCell _ _ _ _)⟩
      case measure => simp [intOf]; omega
    · obtain rfl : k = l.length := by omega
      go_wp2
      go_end0
      exact ⟨rfl, by simpa using hown, hg⟩

/-- what LentBytes answered is as it was -/
theorem kept_yes (a a' : Option Addr) (c c' n m : Nat) (l : List UInt8) (w : World) (hf : BLies w a (lent l)) (hl : BLies w a' l) (hn : l.length = n) (hm : n + 70 = m) (hle : n ≤ 4000000000) :
    Calls Try.prog 16 #[.slice a m c, .slice a' n c'] w fun e w' => e = .returned (.bool true) ∧ w.grownBy w' none := by
  subst hn; subst hm
  rw [← lent_length]
  exact (kept_any a a' c c' (lent l) l w hf hl hle (by rw [lent_length]; unfold maxLen; omega)).mono fun e w' ⟨h1, h2⟩ => ⟨by rw [h1]; simp, h2⟩
theorem over_n (base g c n : Nat) (l : List UInt8) (w : World) (ho : BOwn w base (some ⟨g, 0, none⟩) n c l) (hn : n ≤ 4000000100) :
    Calls Try.prog 18 #[.slice (some ⟨g, 0, none⟩) n c] w fun e w' => e = .returned (.tuple #[]) ∧ BOwn w' base (some ⟨g, 0, none⟩) n c (over n) ∧ w.grownBy w' (some g) := by
  obtain rfl := ho.len
  exact over_any base g c l w ho hn

end Go.Proofs.Ythemlaibjchjpaa
/- What ApartBytes leans on: slices as values, lists of slices that own their rows, and what each loop's round does to them. No walk. -/
namespace Go.Proofs.Ythemlaibjchjpaa
open Go.RowKit

/-- a slice's value -/
structure Sl where
  a : Option Addr
  n : Nat
  c : Nat
def Sl.val (s : Sl) : Value := .slice s.a s.n s.c
/-- the block in which it has room -/
def Sl.blk (s : Sl) : Option Nat := if s.c = 0 then none else s.a.map (·.block)

/-- the marks of list k -/
def mkl (k n : Nat) : List UInt8 := (List.range n).map fun (i : Nat) => mrk ((k : Int) + 1) (i : Int)
theorem mkl_succ (k n : Nat) : mkl k (n + 1) = mkl k n ++ [mrk ((k : Int) + 1) (n : Int)] := by simp [mkl, List.range_succ]
theorem mkl_length (k n : Nat) : (mkl k n).length = n := by simp [mkl]
theorem mkl_take (k n m : Nat) (h : m ≤ n) : (mkl k n).take m = mkl k m := by
  simp [mkl, ← List.map_take, List.take_range, Nat.min_eq_left h]
theorem mkl_get (k n i : Nat) (h : i < (mkl k n).length) : (mkl k n)[i] = mrk ((k : Int) + 1) (i : Int) := by simp [mkl]

/-- a slice of slices of bytes that the call owns -/
def SOwn (w : World) (base : Nat) (a : Option Addr) (n c : Nat) (L : List Sl) : Prop := Own w base 22 1 a n c (L.map Sl.val)

theorem SOwn.len {w : World} {base : Nat} {a : Option Addr} {n c : Nat} {L : List Sl} (h : SOwn w base a n c L) : L.length = n := by
  have := h.1; simpa using this

theorem elS : El Try.prog 24 22 (.slice none 0 0) 1 24 :=
  ⟨Try.underlying24, info_parts (by kernel_rfl), rfl, by decide⟩

/-- rows of unlike element types lie in unlike blocks -/
theorem own_ne {w : World} {base base' : Nat} {e e' size size' : Nat} {g g' n n' c c' : Nat} {xs ys : List Value} (h : Own w base e size (some ⟨g, 0, none⟩) n c xs) (h' : Own w base' e' size' (some ⟨g', 0, none⟩) n' c' ys) (hc : 0 < c) (hc' : 0 < c') (hne : e ≠ e') : g ≠ g' := by
  rcases h.2 with ⟨_, h0⟩ | ⟨_, cur, ha, _, hh, _⟩
  · omega
  rcases h'.2 with ⟨_, h0⟩ | ⟨_, cur', ha', _, hh', _⟩
  · omega
  rintro rfl
  injection ha with ha; injection ha with ha1
  injection ha' with ha'; injection ha' with ha'1
  subst ha1; subst ha'1
  rw [hh] at hh'
  injection hh' with hh'
  injection hh' with _ h2 _
  exact hne h2

/-- a store into a row of bytes leaves a row of another type -/
theorem Own.setOther {w : World} {base base' : Nat} {e e' size size' : Nat} {a : Option Addr} {g n n' c c' : Nat} {xs ys : List Value} (h : Own w base e size a n c xs) (h' : Own w base' e' size' (some ⟨g, 0, none⟩) n' c' ys) (hc' : 0 < c') (hne : e ≠ e') (k : Nat) (u : Value) : Own (w.setCell ⟨g, k, none⟩ u) base e size a n c xs := by
  by_cases hc : 0 < c
  · obtain ⟨g2, rfl, _, _⟩ := h.block hc
    have hn := own_ne h h' hc hc' hne
    exact h.kept fun g3 e3 _ => Below.heap_setCell _ _ _ _ (by injection e3 with e3; injection e3 with e3; subst e3; exact hn)
  · refine ⟨h.1, .inl ?_⟩
    rcases h.2 with h0 | ⟨_, _, _, _, _, hn, _⟩
    · exact h0
    · exact ⟨by omega, by omega⟩

/-- the lists lie apart -/
def Distinct (L : List Sl) : Prop := ∀ i j (hi : i < L.length) (hj : j < L.length), i ≠ j → ∀ g, (L[i]).blk = some g → (L[j]).blk ≠ some g

theorem BOwn.grown {w w' : World} {base : Nat} {a : Option Addr} {n c : Nat} {l : List UInt8} (h : BOwn w base a n c l) (hg : w.grownBy w' none) : BOwn w' base a n c l :=
  Own.kept h fun g _ hl => hg.block g hl (by simp)
theorem BOwn.drewN {w : World} {base : Nat} {a : Option Addr} {n c : Nat} {l : List UInt8} (h : BOwn w base a n c l) (m : Nat) : BOwn (w.drewN m) base a n c l := h
theorem BOwn.mono {w : World} {base base' : Nat} {a : Option Addr} {n c : Nat} {l : List UInt8} (h : BOwn w base a n c l) (hb : base' ≤ base) : BOwn w base' a n c l := Own.mono h hb

/-- phase 1: the lists below k bear their marks, list k the first i of them -/
structure St1 (base : Nat) (als : Option Addr) (cls : Nat) (L : List Sl) (w : World) (k i : Nat) (wr : World) : Prop where
  outer : SOwn wr base als L.length cls L
  inner : ∀ j (hj : j < L.length), ∃ l, BOwn wr base (L[j]).a (L[j]).n (L[j]).c l ∧ (j < k → l = mkl j (L[j]).n) ∧ (j = k → l.take i = mkl k i)
  below : Below base w wr

theorem St1.drewN {base : Nat} {als : Option Addr} {cls : Nat} {L : List Sl} {w : World} {k i : Nat} {wr : World} (h : St1 base als cls L w k i wr) (n : Nat) : St1 base als cls L w k i (wr.drewN n) :=
  ⟨h.outer, h.inner, h.below.trans ⟨rfl, rfl, rfl, Nat.le_refl _, fun _ _ => rfl⟩⟩
theorem St1.drew {base : Nat} {als : Option Addr} {cls : Nat} {L : List Sl} {w : World} {k i : Nat} {wr : World} (h : St1 base als cls L w k i wr) : St1 base als cls L w k i wr.drew := h.drewN 1

theorem St1.next {base : Nat} {als : Option Addr} {cls : Nat} {L : List Sl} {w : World} {k i : Nat} {wr : World} (h : St1 base als cls L w k i wr) (hk : k < L.length) (hi : i = (L[k]).n) : St1 base als cls L w (k + 1) 0 wr := by
  refine ⟨h.outer, fun j hj => ?_, h.below⟩
  obtain ⟨l, ho, h1, h2⟩ := h.inner j hj
  refine ⟨l, ho, fun hjk => ?_, fun _ => by simp [mkl]⟩
  by_cases e : j = k
  · subst e
    have := h2 rfl
    rw [hi, List.take_of_length_le (by rw [ho.len]; omega)] at this
    exact this
  · exact h1 (by omega)

theorem take_set_succ {l : List UInt8} {i : Nat} (hi : i < l.length) (x : UInt8) : (l.set i x).take (i + 1) = l.take i ++ [x] := by
  rw [List.take_succ_eq_append_getElem (by simpa using hi), List.take_set_of_le (Nat.le_refl _)]
  simp

theorem St1.store {base : Nat} {als : Option Addr} {cls : Nat} {L : List Sl} {w : World} {k i : Nat} {wr : World} (h : St1 base als cls L w k i wr) (hd : Distinct L) (hk : k < L.length) (hi : i < (L[k]).n) :
    ∃ g, (L[k]).a = some ⟨g, 0, none⟩ ∧ (∃ u, wr.cell? ⟨g, i, none⟩ = some u) ∧ wr.frozen? ⟨g, i, none⟩ = false ∧ St1 base als cls L w k (i + 1) (wr.setCell ⟨g, i, none⟩ (.int .u8 ((mrk ((k : Int) + 1) (i : Int)).toNat : Int))) := by
  obtain ⟨l, ho, _, h2⟩ := h.inner k hk
  have hlen := ho.len
  obtain ⟨g, ha, hb, hlt, hc, hf⟩ := Own.cell ho i (by simp; omega)
  have hpos : 0 < (L[k]).c := by
    rcases ho.2 with ⟨h0, _⟩ | ⟨_, _, _, _, _, hn, _⟩ <;> omega
  have hblk : (L[k]).blk = some g := by simp [Sl.blk, Nat.ne_of_gt hpos, ha]
  refine ⟨g, ha, ⟨_, hc⟩, hf, ?_, fun j hj => ?_, h.below.trans ((Below.refl base wr).setCell (p := ⟨g, i, none⟩) hb _)⟩
  · exact Own.setOther h.outer (by rw [ha] at ho; exact ho) hpos (by decide) _ _
  · by_cases e : j = k
    · subst e
      refine ⟨l.set i (mrk ((j : Int) + 1) (i : Int)), ?_, fun hj' => by omega, fun _ => ?_⟩
      · rw [ha] at ho ⊢
        have := Own.set ho i (by simp; omega) (.int .u8 ((mrk ((j : Int) + 1) (i : Int)).toNat : Int))
        unfold BOwn
        rw [List.map_set]
        exact this
      · rw [take_set_succ (by omega), h2 rfl, mkl_succ]
    · obtain ⟨lj, hoj, h1j, _⟩ := h.inner j hj
      refine ⟨lj, ?_, h1j, fun e' => absurd e' e⟩
      refine hoj.kept' fun hcj g' hg' _ => Below.heap_setCell _ _ _ _ ?_
      rintro rfl
      exact hd j k hj hk e g' (by simp [Sl.blk, Nat.ne_of_gt hcj, hg']) hblk

/-- what is owned stays owned where another block is written -/
theorem Own.grownNe {w w' : World} {base : Nat} {e : TypeId} {size : Nat} {a : Option Addr} {n c : Nat} {xs : List Value} {row : Option Nat} (h : Own w base e size a n c xs) (hg : w.grownBy w' row) (hne : ∀ g, 0 < c → a = some ⟨g, 0, none⟩ → row ≠ some g) : Own w' base e size a n c xs :=
  h.kept' fun hc g ha hl => hg.block g hl (fun e => hne g hc ha e.symm)
theorem Own.grownNone {w w' : World} {base : Nat} {e : TypeId} {size : Nat} {a : Option Addr} {n c : Nat} {xs : List Value} (h : Own w base e size a n c xs) (hg : w.grownBy w' none) : Own w' base e size a n c xs :=
  h.grownNe hg (by simp)
/-- an append to a row of another type -/
theorem Own.grewOther {w w' : World} {base base' : Nat} {e e' size size' : Nat} {a a' a2 : Option Addr} {n n' c c' c2 : Nat} {xs ys : List Value} (h : Own w base e size a n c xs) (h' : Own w base' e' size' a' n' c' ys) (hg : GrewP w w' a' c' a2 c2) (hne : e ≠ e') : Own w' base e size a n c xs := by
  rcases hg with ⟨g, rfl, rfl, hc', _, hg⟩ | ⟨g, _, _, hg⟩
  · refine h.grownNe hg fun g' hc ha => ?_
    subst ha
    have := own_ne h h' hc hc' hne
    intro e; injection e with e; exact this e.symm
  · exact h.grownNone hg

theorem Sl.blk_some {s : Sl} {g : Nat} (hc : 0 < s.c) (ha : s.a = some ⟨g, 0, none⟩) : s.blk = some g := by
  simp [Sl.blk, Nat.ne_of_gt hc, ha]
theorem BOwn.blk {w : World} {base : Nat} {s : Sl} {l : List UInt8} (h : BOwn w base s.a s.n s.c l) {g : Nat} (hb : s.blk = some g) : 0 < s.c ∧ s.a = some ⟨g, 0, none⟩ := by
  unfold Sl.blk at hb
  split at hb
  · cases hb
  · rename_i hc
    obtain ⟨g', ha, _, _⟩ := Own.block h (by omega)
    rw [ha] at hb
    simp at hb
    subst hb
    exact ⟨by omega, ha⟩

/-- phase 2: to the copies below k the marks behind their lists have been appended -/
structure St2 (base : Nat) (als : Option Addr) (cls : Nat) (L : List Sl) (w : World) (B : Nat) (k : Nat) (ags : Option Addr) (cgs : Nat) (G : List Sl) (wr : World) : Prop where
  outer : SOwn wr base als L.length cls L
  gs : SOwn wr B ags k cgs G
  lists : ∀ j (hj : j < L.length), BOwn wr base (L[j]).a (L[j]).n (L[j]).c (mkl j (L[j]).n)
  done : ∀ j (hj : j < L.length) (hG : j < G.length), (G[j]).n = (L[j]).n + 70 ∧ BOwn wr base (G[j]).a (G[j]).n (G[j]).c (mkl j ((L[j]).n + 70)) ∧ ∀ g, (G[j]).blk = some g → (L[j]).blk = some g ∨ B ≤ g
  below : Below base w wr
  size : B ≤ wr.heap.size
  baseB : base ≤ B
  oldO : ∀ g, 0 < cls → als = some ⟨g, 0, none⟩ → g < B
  oldL : ∀ j (hj : j < L.length) g, (L[j]).blk = some g → g < B

theorem St2.start {base : Nat} {als : Option Addr} {cls : Nat} {L : List Sl} {w wr : World} (h : St1 base als cls L w L.length 0 wr) (hb : base ≤ w.heap.size) : St2 base als cls L w wr.heap.size 0 none 0 [] wr where
  outer := h.outer
  gs := Own.nil _ _ _ _ _
  lists := fun j hj => by
    obtain ⟨l, ho, h1, _⟩ := h.inner j hj
    rw [h1 hj] at ho
    exact ho
  done := fun j hj hG => absurd hG (by simp)
  below := h.below
  size := Nat.le_refl _
  baseB := Nat.le_trans hb h.below.size
  oldO := fun g hc ha => by
    obtain ⟨g', ha', _, hlt⟩ := Own.block h.outer hc
    rw [ha] at ha'
    injection ha' with ha'; injection ha' with ha'
    omega
  oldL := fun j hj g hg => by
    obtain ⟨l, ho, _, _⟩ := h.inner j hj
    obtain ⟨hc, ha⟩ := ho.blk hg
    obtain ⟨g', ha', _, hlt⟩ := Own.block ho hc
    rw [ha] at ha'
    injection ha' with ha'; injection ha' with ha'
    omega

/-- the inner loop of phase 2 -/
structure In2 (base : Nat) (L : List Sl) (k : Nat) (hk : k < L.length) (wk : World) (i : Nat) (a : Option Addr) (c : Nat) (wr : World) : Prop where
  row : BOwn wr base a ((L[k]).n + i) c (mkl k ((L[k]).n + i))
  frame : wk.grownBy wr (L[k]).blk
  place : ∀ g, 0 < c → a = some ⟨g, 0, none⟩ → (L[k]).blk = some g ∨ wk.heap.size ≤ g
  list : BOwn wr base (L[k]).a (L[k]).n (L[k]).c (mkl k (L[k]).n)

theorem In2.start {base : Nat} {als : Option Addr} {cls : Nat} {L : List Sl} {w : World} {B k : Nat} {ags : Option Addr} {cgs : Nat} {G : List Sl} {wr : World} (h : St2 base als cls L w B k ags cgs G wr) (hk : k < L.length) : In2 base L k hk wr 0 (L[k]).a (L[k]).c wr :=
  ⟨h.lists k hk, World.grownBy.refl _ _, fun g hc ha => .inl (Sl.blk_some hc ha), h.lists k hk⟩

theorem own_prefix {w w1 : World} {base : Nat} {e : TypeId} {g n n' c c' : Nat} {xs ys : List Value} (h : Own w base e 1 (some ⟨g, 0, none⟩) n c xs) (hc : 0 < c) (h1 : Own w1 base e 1 (some ⟨g, 0, none⟩) n' c' ys) (hcc : c' = c) (hx : ys.take n = xs) (hn : n ≤ n') : Own w1 base e 1 (some ⟨g, 0, none⟩) n c xs := by
  subst hcc
  refine ⟨h.1, .inr ?_⟩
  rcases h.2 with ⟨_, h0⟩ | ⟨g1, cur, ha, hb, hh, hnc, hm, hs, ht⟩
  · omega
  rcases h1.2 with ⟨_, h0⟩ | ⟨g2, cur2, ha2, hb2, hh2, hnc2, hm2, hs2, ht2⟩
  · omega
  refine ⟨g2, cur2, ha2, hb2, hh2, hnc, hm, hs2, ?_⟩
  rw [← hx, ← ht2, List.take_take]
  congr 1
  omega

theorem own_cap {w : World} {base base' : Nat} {e : TypeId} {g n n' c c' : Nat} {xs ys : List Value} (h : Own w base e 1 (some ⟨g, 0, none⟩) n c xs) (h' : Own w base' e 1 (some ⟨g, 0, none⟩) n' c' ys) (hc : 0 < c) (hc' : 0 < c') : c = c' := by
  rcases h.2 with ⟨_, h0⟩ | ⟨g1, cur, ha, hb, hh, hnc, hm, hs, ht⟩
  · omega
  rcases h'.2 with ⟨_, h0⟩ | ⟨g2, cur2, ha2, hb2, hh2, hnc2, hm2, hs2, ht2⟩
  · omega
  injection ha with ha; injection ha with ha
  injection ha2 with ha2; injection ha2 with ha2
  subst ha; subst ha2
  rw [hh] at hh2
  injection hh2 with hh2
  injection hh2 with h1 _ _
  subst h1
  omega

theorem In2.next {base : Nat} {L : List Sl} {k : Nat} {hk : k < L.length} {wk : World} {i : Nat} {a : Option Addr} {c : Nat} {wr : World} (h : In2 base L k hk wk i a c wr) {g c' : Nat} {w1 : World}
    (ho : Own w1 base 5 1 (some ⟨g, 0, none⟩) ((L[k]).n + i + 1) c' ((mkl k ((L[k]).n + i)).map bval ++ [.int .u8 ((mrk ((k : Int) + 1) (((L[k]).n : Int) + (i : Int))).toNat : Int)])) (hg : GrewP wr w1 a c (some ⟨g, 0, none⟩) c') : In2 base L k hk wk (i + 1) (some ⟨g, 0, none⟩) c' w1 := by
  have hrow : BOwn w1 base (some ⟨g, 0, none⟩) ((L[k]).n + (i + 1)) c' (mkl k ((L[k]).n + (i + 1))) := by
    unfold BOwn
    rw [← Nat.add_assoc, mkl_succ, List.map_append]
    have e : (((L[k]).n + i : Nat) : Int) = ((L[k]).n : Int) + (i : Int) := by omega
    rw [e]
    exact ho
  rcases hg with ⟨g1, e1, rfl, hc, hcc, hg⟩ | ⟨g1, e1, hs, hg⟩
  · injection e1 with e1; injection e1 with e1
    subst e1
    have hpl := h.place g hc rfl
    refine ⟨hrow, ?_, fun g2 _ e2 => ?_, ?_⟩
    · rcases hpl with hb | hb
      · rw [hb]; exact grownBy_trans (by have := h.frame; rwa [hb] at this) hg
      · exact ⟨hg.os.trans h.frame.os, hg.tape.trans h.frame.tape, hg.output.trans h.frame.output, Nat.le_trans h.frame.size hg.size, fun b hb1 hb2 => (hg.block b (Nat.lt_of_lt_of_le hb1 h.frame.size) (by simp; omega)).trans (h.frame.block b hb1 hb2)⟩
    · injection e2 with e2; injection e2 with e2
      subst e2
      exact hpl
    · by_cases hb : (L[k]).blk = some g
      · obtain ⟨hc2, ha2⟩ := h.list.blk hb
        have hl := h.list
        rw [ha2] at hl ⊢
        have hcap := own_cap h.row hl hc hc2
        refine own_prefix hl hc2 hrow (by omega) ?_ (by omega)
        rw [← List.map_take, mkl_take _ _ _ (by omega)]
      · refine Own.grownNe h.list hg fun g2 hc2 ha2 e2 => ?_
        injection e2 with e2
        subst e2
        exact hb (Sl.blk_some hc2 ha2)
  · injection e1 with e1; injection e1 with e1
    subst e1
    refine ⟨hrow, grownBy_trans h.frame (grownBy_some hg _), fun g2 _ e2 => ?_, Own.grownNone h.list hg⟩
    injection e2 with e2; injection e2 with e2
    subst e2
    exact .inr (Nat.le_trans h.frame.size hs)

theorem St2.outerIn {base : Nat} {als : Option Addr} {cls : Nat} {L : List Sl} {w : World} {B k : Nat} {ags : Option Addr} {cgs : Nat} {G : List Sl} {wk wr : World} (h : St2 base als cls L w B k ags cgs G wk) (hk : k < L.length) (hf : wk.grownBy wr (L[k]).blk) : SOwn wr base als L.length cls L := by
  refine Own.grownNe h.outer hf fun g1 hc1 ha1 hb1 => ?_
  obtain ⟨hc2, ha2⟩ := (h.lists k hk).blk hb1
  have h3 := h.outer
  have h4 := h.lists k hk
  rw [ha1] at h3
  rw [ha2] at h4
  exact own_ne h3 h4 hc1 hc2 (by decide) rfl

/-- the copy is laid among the others -/
theorem St2.next {base : Nat} {als : Option Addr} {cls : Nat} {L : List Sl} {w : World} {B k : Nat} {ags : Option Addr} {cgs : Nat} {G : List Sl} {wk wr w1 : World} (h : St2 base als cls L w B k ags cgs G wk) (hk : k < L.length) (hd : Distinct L) {a : Option Addr} {c : Nat} (h2 : In2 base L k hk wk 70 a c wr)
    {g cg : Nat} (ho : Own w1 B 22 1 (some ⟨g, 0, none⟩) (k + 1) cg (G.map Sl.val ++ [.slice a ((L[k]).n + 70) c])) (hg : GrewP wr w1 ags cgs (some ⟨g, 0, none⟩) cg) : St2 base als cls L w B (k + 1) (some ⟨g, 0, none⟩) cg (G ++ [⟨a, (L[k]).n + 70, c⟩]) w1 := by
  have hGl : G.length = k := h.gs.len
  have gs' : SOwn wr B ags k cgs G := by
    refine Own.grownNe h.gs h2.frame fun g1 hc1 ha1 hb1 => ?_
    obtain ⟨hc2, ha2⟩ := (h.lists k hk).blk hb1
    have h3 := h.gs
    have h4 := h.lists k hk
    rw [ha1] at h3
    rw [ha2] at h4
    exact own_ne h3 h4 hc1 hc2 (by decide) rfl
  have lists' : ∀ j (hj : j < L.length), BOwn wr base (L[j]).a (L[j]).n (L[j]).c (mkl j (L[j]).n) := by
    intro j hj
    by_cases e : j = k
    · subst e; exact h2.list
    · exact Own.grownNe (h.lists j hj) h2.frame fun g1 hc1 ha1 hb1 => hd j k hj hk e g1 (Sl.blk_some hc1 ha1) hb1
  refine ⟨?_, by unfold SOwn; rw [List.map_append]; exact ho, fun j hj => Own.grewOther (lists' j hj) gs' hg (by decide), fun j hj hG => ?_, ?_, ?_, h.baseB, h.oldO, h.oldL⟩
  · have o1 := h.outerIn hk h2.frame
    rcases hg with ⟨g1, e1, rfl, hc, hcc, hg⟩ | ⟨g1, e1, hs, hg⟩
    · refine Own.grownNe o1 hg fun g2 hc2 ha2 e2 => ?_
      injection e2 with e2
      subst e2
      have := h.oldO _ hc2 ha2
      obtain ⟨g3, e3, hb3, _⟩ := Own.block gs' hc
      rw [e1] at e3
      injection e3 with e3; injection e3 with e3
      omega
    · exact Own.grownNone o1 hg
  · by_cases e : j = k
    · subst e
      have eG : (G ++ [(⟨a, (L[j]).n + 70, c⟩ : Sl)])[j] = ⟨a, (L[j]).n + 70, c⟩ := by
        rw [List.getElem_append_right (by omega)]; simp [hGl]
      rw [eG]
      refine ⟨rfl, Own.grewOther h2.row gs' hg (by decide), fun g1 hb1 => ?_⟩
      have hb2 : c ≠ 0 ∧ ∃ x, a = some x ∧ x.block = g1 := by
        simp only [Sl.blk] at hb1
        split at hb1
        · cases hb1
        · rename_i hc
          exact ⟨hc, by simpa [Option.map_eq_some_iff] using hb1⟩
      obtain ⟨hc, x, rfl, rfl⟩ := hb2
      obtain ⟨g3, e3, _, _⟩ := Own.block h2.row (by omega)
      injection e3 with e3
      subst e3
      rcases h2.place g3 (by omega) rfl with hp | hp
      · exact .inl hp
      · exact .inr (Nat.le_trans h.size hp)
    · have hjk : j < k := by simp at hG; omega
      have eG : (G ++ [(⟨a, (L[k]).n + 70, c⟩ : Sl)])[j] = G[j]'(by omega) := List.getElem_append_left (by omega)
      rw [eG]
      obtain ⟨e1, e2, e3⟩ := h.done j hj (by omega)
      refine ⟨e1, Own.grewOther (Own.grownNe e2 h2.frame fun g1 hc1 ha1 hb1 => ?_) gs' hg (by decide), e3⟩
      rcases e3 g1 (Sl.blk_some hc1 ha1) with h5 | h5
      · exact hd j k hj hk e g1 h5 hb1
      · have := h.oldL k hk g1 hb1
        omega
  · have f1 : Below base wk wr := by
      refine ⟨h2.frame.os, h2.frame.tape, h2.frame.output, h2.frame.size, fun b hb => h2.frame.block b (by have := h.size; have := h.baseB; omega) fun e => ?_⟩
      obtain ⟨hc2, ha2⟩ := (h.lists k hk).blk e.symm
      obtain ⟨g3, e3, hb3, _⟩ := Own.block (h.lists k hk) hc2
      rw [ha2] at e3
      injection e3 with e3; injection e3 with e3
      omega
    refine h.below.trans (f1.trans ?_)
    rcases hg with ⟨g1, e1, rfl, hc, hcc, hg⟩ | ⟨g1, e1, hs, hg⟩
    · obtain ⟨g3, e3, hb3, _⟩ := Own.block gs' hc
      rw [e1] at e3
      injection e3 with e3; injection e3 with e3
      exact (Below.refl base wr).grown hg (by have := h.size; have := h.baseB; have := h2.frame.size; omega) (by rintro b ⟨⟩; have := h.baseB; omega)
    · exact (Below.refl base wr).grown hg (by have := h.size; have := h.baseB; have := h2.frame.size; omega) (by simp)
  · have := h.size
    have := h2.frame.size
    have := hg.grew.size
    omega

/-- phase 3: what is looked at -/
theorem St2.look {base : Nat} {als : Option Addr} {cls : Nat} {L : List Sl} {w : World} {B : Nat} {ags : Option Addr} {cgs : Nat} {G : List Sl} {wr : World} (h : St2 base als cls L w B L.length ags cgs G wr) (k : Nat) (hk : k < L.length) :
    ∃ gl gg h c, als = some ⟨gl, 0, none⟩ ∧ ags = some ⟨gg, 0, none⟩ ∧ wr.cell? ⟨gl, k, none⟩ = some (.slice (L[k]).a (L[k]).n (L[k]).c) ∧ wr.cell? ⟨gg, k, none⟩ = some (.slice (some ⟨h, 0, none⟩) ((L[k]).n + 70) c) ∧
      (∀ i, i < (L[k]).n + 70 → wr.cell? ⟨h, i, none⟩ = some (.int .u8 ((mrk ((k : Int) + 1) (i : Int)).toNat : Int))) ∧
      (∀ i, i < (L[k]).n → ∃ g, (L[k]).a = some ⟨g, 0, none⟩ ∧ wr.cell? ⟨g, i, none⟩ = some (.int .u8 ((mrk ((k : Int) + 1) (i : Int)).toNat : Int))) := by
  obtain ⟨gl, e1, _, _, c1, _⟩ := Own.cell h.outer k (by simpa using hk)
  obtain ⟨gg, e2, _, _, c2, _⟩ := Own.cell h.gs k (by simpa [h.gs.len] using hk)
  have hG : k < G.length := by rw [h.gs.len]; exact hk
  obtain ⟨d1, d2, _⟩ := h.done k hk hG
  obtain ⟨hh, e3, _, _, _, _⟩ := Own.cell d2 0 (by simp [mkl_length])
  refine ⟨gl, gg, hh, (G[k]).c, e1, e2, by rw [c1]; simp [Sl.val], by rw [c2]; simp [Sl.val, e3, d1], fun i hi => ?_, fun i hi => ?_⟩
  · obtain ⟨h', e4, _, _, c4, _⟩ := Own.cell d2 i (by simp [mkl_length]; omega)
    rw [e3] at e4
    injection e4 with e4; injection e4 with e4
    subst e4
    rw [c4]
    simp [bval, mkl]
  · obtain ⟨g, e4, _, _, c4, _⟩ := Own.cell (h.lists k hk) i (by simp [mkl_length]; omega)
    exact ⟨g, e4, by rw [c4]; simp [bval, mkl]⟩

end Go.Proofs.Ythemlaibjchjpaa
/- Lists of lists of bytes that the call owns: an outer row of slices, each of them with memory of its own. -/
namespace Go.Proofs.Ythemlaibjchjpaa
open Go.RowKit

/-- the value '.slice a n c' owns the lists bs -/
def LOwn (w : World) (base : Nat) (a : Option Addr) (n c : Nat) (bs : List (List UInt8)) : Prop :=
  ∃ L : List Sl, SOwn w base a n c L ∧ L.length = bs.length ∧ (∀ i (h : i < L.length) (h' : i < bs.length), BOwn w base (L[i]).a (L[i]).n (L[i]).c bs[i]) ∧ Distinct L

theorem LOwn.nil (w : World) (base : Nat) : LOwn w base none 0 0 [] :=
  ⟨[], Own.nil _ _ _ _ _, rfl, fun i (h : i < 0) => absurd h (by omega), fun i j (h : i < 0) => absurd h (by omega)⟩
theorem LOwn.len {w : World} {base : Nat} {a : Option Addr} {n c : Nat} {bs : List (List UInt8)} (h : LOwn w base a n c bs) : bs.length = n := by
  obtain ⟨L, h1, h2, _⟩ := h
  rw [← h2]; exact h1.len
theorem LOwn.cap {w : World} {base : Nat} {a : Option Addr} {n c : Nat} {bs : List (List UInt8)} (h : LOwn w base a n c bs) : n ≤ c ∧ c ≤ maxLen := by
  obtain ⟨L, h1, _⟩ := h
  exact Own.cap h1
theorem LOwn.grown {w w' : World} {base : Nat} {a : Option Addr} {n c : Nat} {bs : List (List UInt8)} (h : LOwn w base a n c bs) (hg : w.grownBy w' none) : LOwn w' base a n c bs := by
  obtain ⟨L, h1, h2, h3, h4⟩ := h
  exact ⟨L, Own.grownNone h1 hg, h2, fun i h h' => (h3 i h h').grown hg, h4⟩
theorem LOwn.mono {w : World} {base base' : Nat} {a : Option Addr} {n c : Nat} {bs : List (List UInt8)} (h : LOwn w base a n c bs) (hb : base' ≤ base) : LOwn w base' a n c bs := by
  obtain ⟨L, h1, h2, h3, h4⟩ := h
  exact ⟨L, Own.mono h1 hb, h2, fun i h h' => (h3 i h h').mono hb, h4⟩

/-- the list of slices bs, told by its slices -/
structure LIs (w : World) (base : Nat) (a : Option Addr) (n c : Nat) (bs : List (List UInt8)) (L : List Sl) : Prop where
  outer : SOwn w base a n c L
  len : L.length = bs.length
  inner : ∀ i (h : i < L.length) (h' : i < bs.length), BOwn w base (L[i]).a (L[i]).n (L[i]).c bs[i]
  apart : Distinct L
theorem LOwn.is {w : World} {base : Nat} {a : Option Addr} {n c : Nat} {bs : List (List UInt8)} (h : LOwn w base a n c bs) : ∃ L, LIs w base a n c bs L := by
  obtain ⟨L, h1, h2, h3, h4⟩ := h
  exact ⟨L, h1, h2, h3, h4⟩
theorem LIs.grown {w w' : World} {base : Nat} {a : Option Addr} {n c : Nat} {bs : List (List UInt8)} {L : List Sl} (h : LIs w base a n c bs L) (hg : w.grownBy w' none) : LIs w' base a n c bs L :=
  ⟨Own.grownNone h.outer hg, h.len, fun i h1 h2 => (h.inner i h1 h2).grown hg, h.apart⟩

/-- one list more -/
theorem LIs.push {w w1 w2 : World} {base : Nat} {a : Option Addr} {n c : Nat} {bs : List (List UInt8)} {L : List Sl} (h : LIs w base a n c bs L) (hb : base ≤ w.heap.size) (hg : w.grownBy w1 none)
    {a' : Option Addr} {n' c' : Nat} {b : List UInt8} (ho : BOwn w1 w.heap.size a' n' c' b) {a2 : Option Addr} {c2 : Nat}
    (hs : Own w2 base 22 1 a2 (n + 1) c2 (L.map Sl.val ++ [.slice a' n' c'])) (hgr : GrewP w1 w2 a c a2 c2) : LOwn w2 base a2 (n + 1) c2 (bs ++ [b]) := by
  obtain ⟨h1, h2, h3, h4⟩ := h
  have h1' : SOwn w1 base a n c L := Own.grownNone h1 hg
  have hin : ∀ i (h : i < L.length) (h' : i < bs.length), BOwn w2 base (L[i]).a (L[i]).n (L[i]).c bs[i] := fun i h h' => Own.grewOther ((h3 i h h').grown hg) h1' hgr (by decide)
  have hnew : BOwn w2 base a' n' c' b := Own.grewOther (ho.mono hb) h1' hgr (by decide)
  refine ⟨L ++ [⟨a', n', c'⟩], ?_, by simp [h2], ?_, ?_⟩
  · unfold SOwn; rw [List.map_append]; exact hs
  · intro i hi hi'
    by_cases e : i < L.length
    · have e' : i < bs.length := by omega
      rw [List.getElem_append_left e, List.getElem_append_left e']
      exact hin i e e'
    · simp only [List.length_append, List.length_singleton] at hi
      obtain rfl : i = L.length := by omega
      have e2 : (L ++ [⟨a', n', c'⟩])[L.length] = (⟨a', n', c'⟩ : Sl) := by simp
      have e3 : (bs ++ [b])[L.length] = b := by simp [h2]
      rw [e2, e3]
      exact hnew
  · have old : ∀ i (hi : i < L.length) g, (L[i]).blk = some g → g < w.heap.size := by
      intro i hi g hgb
      have hbo := h3 i hi (by omega)
      obtain ⟨hc, ha⟩ := hbo.blk hgb
      obtain ⟨g', ha', _, hlt⟩ := Own.block hbo hc
      rw [ha] at ha'
      obtain rfl : g = g' := by simpa using ha'
      exact hlt
    have new : ∀ g, (⟨a', n', c'⟩ : Sl).blk = some g → w.heap.size ≤ g := by
      intro g hgb
      have hbo : BOwn w1 w.heap.size (⟨a', n', c'⟩ : Sl).a (⟨a', n', c'⟩ : Sl).n (⟨a', n', c'⟩ : Sl).c b := ho
      obtain ⟨hc, ha⟩ := hbo.blk hgb
      obtain ⟨g', ha', hlt, _⟩ := Own.block hbo hc
      rw [ha] at ha'
      obtain rfl : g = g' := by simpa using ha'
      exact hlt
    intro i j hi hj hij g hgi hgj
    simp only [List.length_append, List.length_singleton] at hi hj
    by_cases ei : i < L.length
    · by_cases ej : j < L.length
      · rw [List.getElem_append_left ei] at hgi
        rw [List.getElem_append_left ej] at hgj
        exact h4 i j ei ej hij g hgi hgj
      · obtain rfl : j = L.length := by omega
        rw [List.getElem_append_left ei] at hgi
        have e2 : (L ++ [⟨a', n', c'⟩])[L.length]'(by simp) = (⟨a', n', c'⟩ : Sl) := by simp
        rw [e2] at hgj
        have := old i ei g hgi
        have := new g hgj
        omega
    · obtain rfl : i = L.length := by omega
      have ej : j < L.length := by omega
      rw [List.getElem_append_left ej] at hgj
      have e2 : (L ++ [⟨a', n', c'⟩])[L.length]'(by simp) = (⟨a', n', c'⟩ : Sl) := by simp
      rw [e2] at hgi
      have := old j ej g hgj
      have := new g hgi
      omega

/-- a list of slices that lies somewhere, and the bytes that they hold -/
def LLies (w : World) (a : Option Addr) (L : List Sl) (bs : List (List UInt8)) : Prop :=
  Lies w a (L.map Sl.val) ∧ L.length = bs.length ∧ ∀ i (h : i < L.length) (h' : i < bs.length), BLies w (L[i]).a bs[i] ∧ (L[i]).n = (bs[i]).length

theorem LOwn.lies {w : World} {base : Nat} {a : Option Addr} {n c : Nat} {bs : List (List UInt8)} (h : LOwn w base a n c bs) : ∃ L, LLies w a L bs ∧ SOwn w base a n c L ∧ ∀ i (h : i < L.length) (h' : i < bs.length), BOwn w base (L[i]).a (L[i]).n (L[i]).c bs[i] := by
  obtain ⟨L, h1, h2, h3, h4⟩ := h
  refine ⟨L, ⟨?_, h2, fun i h h' => ⟨(h3 i h h').lies, (h3 i h h').len.symm⟩⟩, h1, h3⟩
  intro k hk
  obtain ⟨g, e, _, _, hc, _⟩ := Own.cell h1 k hk
  exact ⟨g, 0, e, by rw [Nat.zero_add, hc]⟩

theorem LLies.heap {w w' : World} {a : Option Addr} {L : List Sl} {bs : List (List UInt8)} (h : LLies w a L bs) (hk : ∀ b, b < w.heap.size → w'.heap[b]? = w.heap[b]?) : LLies w' a L bs := by
  refine ⟨fun k hk' => ?_, h.2.1, fun i hi hi' => ⟨((h.2.2 i hi hi').1).heap fun b _ _ hb => hk b hb, (h.2.2 i hi hi').2⟩⟩
  obtain ⟨b, off, e, hc⟩ := h.1 k hk'
  exact ⟨b, off, e, (World.cell?_of_block (hk b (World.block_lt_of_cell? w _ hc))).trans hc⟩
theorem LLies.grown {w w' : World} {a : Option Addr} {L : List Sl} {bs : List (List UInt8)} (h : LLies w a L bs) (hg : w.grownBy w' none) : LLies w' a L bs :=
  h.heap fun b hb => hg.block b hb (by simp)

end Go.Proofs.Ythemlaibjchjpaa
/- A list of lists of bytes that came in, read. -/
namespace Go.Proofs.Ythemlaibjchjpaa
open Go.ChangeShapes Go.WideShapes Go.ChangeAt Go.RowKit

theorem bulk_mem {H : Type} {d : DataW H} : ∀ {l : List (DataW H)}, d ∈ l → Rows.uptoBulk d ≤ Rows.uptoBulkAll l
  | [], h => by cases h
  | x :: r, h => by
    rcases List.mem_cons.1 h with rfl | h
    · simp only [Rows.uptoBulkAll]; omega
    · have := bulk_mem h
      simp only [Rows.uptoBulkAll]; omega
theorem rd_lists {H : Type} {enc : TypeId × Value → H} {W : World} {base : Nat} {spare : Nat → Bool} {held : Bool} {fuel : Nat} {a : Option Addr} {len cap : Nat} {d : DataW H} {p : List MemPlace}
    (h : DataW.trod enc Try.prog W base spare held fuel 24 [.slice a len cap] = some (d, p)) : ∃ (L : List Sl) (bs : List (List UInt8)), LLies W a L bs ∧ bs.length = len ∧ (∀ b ∈ bs, b.length ≤ Rows.uptoBulk d) ∧ len ≤ Rows.uptoBulk d ∧ len ≤ cap := by
  rcases Go.Deep.open_slice1 Try.underlying24 (by kernel_rfl) h with ⟨hcs, _⟩ | ⟨a', len', cap', m, n, V, D, Pl, hcs, hb, hl, hm, hmm, hx, hall⟩
  · injection hcs with hcs; injection hcs with h1 h2 h3
    subst h1 h2 h3
    exact ⟨[], [], ⟨fun k h => absurd h (by simp), rfl, fun i h => absurd h (by simp)⟩, rfl, fun b h => (by cases h), by omega, by omega⟩
  · injection hcs with hcs; injection hcs with h1 h2 h3
    subst h1 h2 h3
    have hlm : len ≤ m := by rw [hmm]; split <;> omega
    injection hx with hx _
    subst hx
    have hbulk := bulk_slice (H := H) ((List.range len).map D) ((List.range (m - len)).map fun j => D (len + j))
    have hlen := bulk_length ((List.range len).map D)
    rw [List.length_map, List.length_range] at hlen
    have each : ∀ i, i < len → ∃ sl : Sl × List UInt8, W.cell? (a'.add i) = some sl.1.val ∧ sl.2.length = sl.1.n ∧ BLies W sl.1.a sl.2 ∧ sl.2.length ≤ Rows.uptoBulkAll ((List.range len).map D) := by
      intro i hi
      obtain ⟨hc, ht⟩ := hall i (by omega)
      have hmem : D i ∈ (List.range len).map D := List.mem_map.2 ⟨i, by simpa using hi, rfl⟩
      have hbm := bulk_mem hmem
      rcases open_ints Try.underlying22 Try.underlying5 (by kernel_rfl) ht with ⟨hv, _⟩ | ⟨x, len', cap', zs, hv, _⟩
      · injection hv with hv
        rw [hv] at ht hc
        obtain ⟨l, h1, h2, h3, _, _⟩ := rd_bytes ht
        exact ⟨(⟨none, 0, 0⟩, l), hc, h1, h2, by show l.length ≤ _; omega⟩
      · injection hv with hv
        rw [hv] at ht hc
        obtain ⟨l, h1, h2, h3, _, _⟩ := rd_bytes ht
        exact ⟨(⟨some x, len', cap'⟩, l), hc, h1, h2, by show l.length ≤ _; omega⟩
    haveI : Inhabited (Sl × List UInt8) := ⟨(⟨none, 0, 0⟩, [])⟩
    obtain ⟨S, hS⟩ := Go.Deep.choose_lt each
    refine ⟨(List.range len).map fun i => (S i).1, (List.range len).map fun i => (S i).2, ⟨fun k hk => ?_, by simp, fun i hi hi' => ?_⟩, by simp, fun b hb => ?_, by omega, hl⟩
    · have hk' : k < len := by simpa using hk
      have hcell := (hS k hk').1
      obtain ⟨b, off, spot⟩ := a'
      have hc0 := (hS 0 (by omega)).1
      have hspot : spot = none := by simpa [Addr.add] using World.cell?_spot hc0
      subst hspot
      refine ⟨b, off, rfl, ?_⟩
      rw [Go.WideShapes.add_plain] at hcell
      rw [hcell]
      simp
    · have hi2 : i < len := by simpa using hi
      obtain ⟨_, h2, h3, _⟩ := hS i hi2
      simp only [List.getElem_map, List.getElem_range]
      exact ⟨h3, h2.symm⟩
    · rw [List.mem_map] at hb
      obtain ⟨i, hi, rfl⟩ := hb
      have := (hS i (by simpa using hi)).2.2.2
      omega

end Go.Proofs.Ythemlaibjchjpaa
/- Lists of bytes that came in: how many bytes they hold. -/
namespace Go.Proofs.Ythemlaibjchjpaa
open Go.ChangeShapes Go.WideShapes Go.ChangeAt Go.RowKit

theorem bulk_flat {H : Type} : ∀ (n : Nat) (D : Nat → DataW H) (f : Nat → List UInt8), (∀ i, i < n → (f i).length ≤ Rows.uptoBulk (D i)) → ((List.range n).map f).flatten.length ≤ Rows.uptoBulkAll ((List.range n).map D)
  | 0, _, _, _ => by simp
  | n + 1, D, f, h => by
    have ih := bulk_flat n D f (fun i hi => h i (by omega))
    have h1 := h n (by omega)
    rw [List.range_succ, List.map_append, List.map_append, bulk_app, List.flatten_append, List.length_append]
    simp only [List.map_cons, List.map_nil, List.flatten_cons, List.flatten_nil, List.append_nil, Rows.uptoBulkAll]
    omega
theorem rd_flat {H : Type} {enc : TypeId × Value → H} {W : World} {base : Nat} {spare : Nat → Bool} {held : Bool} {fuel : Nat} {a : Option Addr} {len cap : Nat} {d : DataW H} {p : List MemPlace}
    (h : DataW.trod enc Try.prog W base spare held fuel 24 [.slice a len cap] = some (d, p)) : ∃ (L : List Sl) (bs : List (List UInt8)), LLies W a L bs ∧ bs.length = len ∧ bs.flatten.length ≤ Rows.uptoBulk d ∧ len ≤ Rows.uptoBulk d ∧ len ≤ cap := by
  rcases Go.Deep.open_slice1 Try.underlying24 (by kernel_rfl) h with ⟨hcs, _⟩ | ⟨a', len', cap', m, n, V, D, Pl, hcs, hb, hl, hm, hmm, hx, hall⟩
  · injection hcs with hcs; injection hcs with h1 h2 h3
    subst h1 h2 h3
    exact ⟨[], [], ⟨fun k h => absurd h (by simp), rfl, fun i h => absurd h (by simp)⟩, rfl, by simp, by omega, by omega⟩
  · injection hcs with hcs; injection hcs with h1 h2 h3
    subst h1 h2 h3
    have hlm : len ≤ m := by rw [hmm]; split <;> omega
    injection hx with hx _
    subst hx
    have hbulk := bulk_slice (H := H) ((List.range len).map D) ((List.range (m - len)).map fun j => D (len + j))
    have hlen := bulk_length ((List.range len).map D)
    rw [List.length_map, List.length_range] at hlen
    have each : ∀ i, i < len → ∃ sl : Sl × List UInt8, W.cell? (a'.add i) = some sl.1.val ∧ sl.2.length = sl.1.n ∧ BLies W sl.1.a sl.2 ∧ sl.2.length ≤ Rows.uptoBulk (D i) := by
      intro i hi
      obtain ⟨hc, ht⟩ := hall i (by omega)
      rcases open_ints Try.underlying22 Try.underlying5 (by kernel_rfl) ht with ⟨hv, _⟩ | ⟨x, len', cap', zs, hv, _⟩
      · injection hv with hv
        rw [hv] at ht hc
        obtain ⟨l, h1, h2, h3, _, _⟩ := rd_bytes ht
        exact ⟨(⟨none, 0, 0⟩, l), hc, h1, h2, by show l.length ≤ _; omega⟩
      · injection hv with hv
        rw [hv] at ht hc
        obtain ⟨l, h1, h2, h3, _, _⟩ := rd_bytes ht
        exact ⟨(⟨some x, len', cap'⟩, l), hc, h1, h2, by show l.length ≤ _; omega⟩
    haveI : Inhabited (Sl × List UInt8) := ⟨(⟨none, 0, 0⟩, [])⟩
    obtain ⟨S, hS⟩ := Go.Deep.choose_lt each
    refine ⟨(List.range len).map fun i => (S i).1, (List.range len).map fun i => (S i).2, ⟨fun k hk => ?_, by simp, fun i hi hi' => ?_⟩, by simp, Nat.le_trans (bulk_flat len D (fun i => (S i).2) (fun i hi => (hS i hi).2.2.2)) (by omega), by omega, hl⟩
    · have hk' : k < len := by simpa using hk
      have hcell := (hS k hk').1
      obtain ⟨b, off, spot⟩ := a'
      have hc0 := (hS 0 (by omega)).1
      have hspot : spot = none := by simpa [Addr.add] using World.cell?_spot hc0
      subst hspot
      refine ⟨b, off, rfl, ?_⟩
      rw [Go.WideShapes.add_plain] at hcell
      rw [hcell]
      simp
    · have hi2 : i < len := by simpa using hi
      obtain ⟨_, h2, h3, _⟩ := hS i hi2
      simp only [List.getElem_map, List.getElem_range]
      exact ⟨h3, h2.symm⟩

end Go.Proofs.Ythemlaibjchjpaa
/- bytes.Clone: the same bytes in memory of its own. -/
namespace Go.Proofs.Ythemlaibjchjpaa
open Go.RowKit

set_option maxRecDepth 100000 in
set_option maxHeartbeats 400000 in
theorem clone_n (a : Option Addr) (c n : Nat) (l : List UInt8) (w : World) (ha : BLies w a l) (hl : l.length = n) (hn : n ≤ 4000000100) :
    Calls Try.prog 60 #[.slice a n c] w fun e w' => ∃ a' c', e = .returned (.slice a' n c') ∧ BOwn w' w.heap.size a' n c' l ∧ w.grownBy w' none := by
  have qT : ∀ (w : World) (a : Option Addr) (n c n' c' : Nat), (binOp .eql 22 (.slice a n c) (.slice none n' c')).run Try.prog w = .ok (.bool a.isNone) w := fun w a n c n' c' => Lib.run_eql_slice_nil w _ _ a n c n' c' Try.underlying22
  by_cases h0 : n = 0
  · subst h0
    obtain rfl : l = [] := List.eq_nil_of_length_eq_zero hl
    clear ha hl
    cases a with
    | none =>
      go_enter Try.func60, Try.ntmps60
      go_wp2
      go_ret
      exact ⟨none, 0, rfl, Own.nil _ _ _ _ _, World.grownBy.refl _ _⟩
    | some ad =>
      go_enter Try.func60, Try.ntmps60
      go_wp2
      go_ret
      exact ⟨_, _, rfl, Own.nil _ _ _ _ _, World.grownBy_alloc _ _ _⟩
  · obtain ⟨b, off, rfl⟩ := ha.addr (by omega)
    have HA := Lib.hid ha
    have HL := Lib.hid hl
    have hsz := Nat.le_succ w.heap.size
    clear ha hl
    go_enter Try.func60, Try.ntmps60
    go_wp2_with (at_builtin; refine wpList_app elB rfl (.tmp 5) (.tmp 6) rfl rfl (Own.nil _ w.heap.size _ _ _) ⟨b, off, none⟩ n c (l.map bval) rfl (by rw [List.length_map, HL.out, Nat.mul_one]) (HA.out.grown (World.grownBy_alloc _ _ _)).news (bval_one l) (by unfold maxLen; omega) (by omega) (by simp) (by omega) ?_; intro g cap w1 hown1 hgr)
    go_ret
    simp only [Nat.zero_add, List.nil_append] at hown1
    exact ⟨_, _, by simp, hown1, hgr.grew.grown (Own.nil _ w.heap.size 5 1 _) (World.grownBy_alloc w _ none) (Nat.le_refl _)⟩

end Go.Proofs.Ythemlaibjchjpaa
/- A fresh variable of several cells that is written whole at once; rows that stand. -/
namespace Go.Proofs.Ythemlaibjchjpaa
open Go.RowKit

/-- block g holds exactly the cells cs of a variable of type t -/
def Row (w : World) (g : Nat) (t : TypeId) (cs : Array Value) : Prop := w.heap[g]? = some (.cells cs t (0, 0))
theorem Row.lt {w : World} {g : Nat} {t : TypeId} {cs : Array Value} (h : Row w g t cs) : g < w.heap.size := (Array.getElem?_eq_some_iff.1 h).1
theorem Row.grown {w w' : World} {g : Nat} {t : TypeId} {cs : Array Value} (h : Row w g t cs) (hg : w.grownBy w' none) : Row w' g t cs :=
  (hg.block g h.lt (by simp)).trans h
theorem Row.grownNe {w w' : World} {g g' : Nat} {t : TypeId} {cs : Array Value} (h : Row w g t cs) (hg : w.grownBy w' (some g')) (hne : g ≠ g') : Row w' g t cs :=
  (hg.block g h.lt (by simpa using hne)).trans h
theorem Row.cell {w : World} {g : Nat} {t : TypeId} {cs : Array Value} (h : Row w g t cs) (k : Nat) : w.cell? ⟨g, k, none⟩ = cs[k]? := by
  unfold Row at h
  simp [World.cell?, h]

theorem Row.setc {w : World} {g : Nat} {t : TypeId} {cs : Array Value} (h : Row w g t cs) (k : Nat) (v : Value) : Row (w.setCell ⟨g, k, none⟩ v) g t (cs.setIfInBounds k v) := by
  unfold Row at h ⊢
  simp only [World.setCell, Array.getElem?_modify, ↓reduceIte, h, Option.map_some]
  simp
theorem Row.frozen {w : World} {g : Nat} {t : TypeId} {cs : Array Value} (h : Row w g t cs) (k : Nat) : w.frozen? ⟨g, k, none⟩ = false := by
  unfold Row at h
  simp [World.frozen?, h]

section
variable {P : Program}

theorem run_alloc_op (w : World) (ev : Operand → Value) {o : Oper} {T : TypeId} (ho : o.op = .alloc T) {i : TypeInfo} (hi : P.info? T = some i) {z : Value} (hz : i.zero = some z) :
    (execOp ev o).run P w = .ok (.value (.pointer (some ⟨w.heap.size, 0, none⟩))) (w.alloc (.cells z.cells T)) := by
  unfold execOp
  simp [ho, Instr.alloc, zeroValue, typeInfo, hi, hz, newVar, newRow]

theorem run_box_op (w : World) (ev : Operand → Value) {o : Oper} {T : TypeId} {x : Operand} (ho : o.op = .box T x) :
    (execOp ev o).run P w = .ok (.value (.pointer (some ⟨w.heap.size, 0, none⟩))) (w.alloc (.cells (ev x).cells T)) := by
  unfold execOp
  simp [ho, Instr.box, newVar, newRow]

theorem wpList_fresh {ops : Array Oper} {rest : List Oper} {o1 o2 : Oper} {a : Act} {w : World} {Q : Exit → Act → World → Prop} (hg1 : o1.guard = none) (hg2 : o2.guard = none) {T : TypeId} {d : Tmp} {x : Operand}
    (ho1 : o1.op = .alloc T) (hd : o1.dst = some d) (ho2 : o2.op = .store T (.tmp d) x) {i : TypeInfo} (hi : P.info? T = some i) {z : Value} (hz : i.zero = some z) (hsz : i.size = z.cells.size)
    (cs : Array Value) (hp : (a.put (some d) (.pointer (some ⟨w.heap.size, 0, none⟩))).eval (.tmp d) = .pointer (some ⟨w.heap.size, 0, none⟩)) (hx : (a.put (some d) (.pointer (some ⟨w.heap.size, 0, none⟩))).eval x = .agg cs)
    (hcs : z.cells.size = cs.size) (h1 : cs.all (·.oneCell') = true)
    (h : ∀ W, W.heap.size = w.heap.size + 1 → w.grownBy W none → Row W w.heap.size T cs → wpList P ops Q rest ((a.put (some d) (.pointer (some ⟨w.heap.size, 0, none⟩))).put o2.dst undef) W) :
    wpList P ops Q (o1 :: o2 :: rest) a w := by
  refine wpList_plain hg1 fun K hK => ?_
  unfold Oper.wp
  rw [run_alloc_op w a.eval ho1 hi hz, Oper.upon_value]
  refine hK _ _ ?_
  rw [hd]
  have hrow : (w.alloc (.cells z.cells T)).heap[w.heap.size]? = some (.cells z.cells T (0, 0)) := heap_alloc_new w _
  refine wpList_store_row hg2 T (.tmp d) x ho2 w.heap.size cs hp hx T z.cells hrow (by rw [hi]; simp [hsz, hcs]) hcs h1 ?_
  refine h _ (by simp) ?_ (setRow_heap _ _ _ _ _ _ hrow)
  exact grownBy_old (World.grownBy_alloc w (.cells z.cells T) none) (grownBy_setRow _ w.heap.size cs) (Nat.le_refl _)

theorem wpList_made {ops : Array Oper} {rest : List Oper} {o1 : Oper} {a : Act} {w : World} {Q : Exit → Act → World → Prop} (hg1 : o1.guard = none) {T : TypeId} (ho1 : o1.op = .alloc T) {i : TypeInfo} (hi : P.info? T = some i) {z : Value} (hz : i.zero = some z)
    (h : ∀ W, W.heap.size = w.heap.size + 1 → w.grownBy W none → Row W w.heap.size T z.cells → wpList P ops Q rest (a.put o1.dst (.pointer (some ⟨w.heap.size, 0, none⟩))) W) : wpList P ops Q (o1 :: rest) a w := by
  refine wpList_plain hg1 fun K hK => ?_
  unfold Oper.wp
  rw [run_alloc_op w a.eval ho1 hi hz, Oper.upon_value]
  exact hK _ _ (h _ (by simp) (World.grownBy_alloc w (.cells z.cells T) none) (heap_alloc_new w _))

theorem wpList_putrow {ops : Array Oper} {rest : List Oper} {o : Oper} {a : Act} {w : World} {Q : Exit → Act → World → Prop} (hg : o.guard = none) {T : TypeId} {x y : Operand} (ho : o.op = .store T x y)
    (g : Nat) (hx : a.eval x = .pointer (some ⟨g, 0, none⟩)) (cs : Array Value) (hy : a.eval y = .agg cs) {old : Array Value} (hr : Row w g T old) (hi : (P.info? T).map (·.size) = some cs.size) (hold : old.size = cs.size) (h1 : cs.all (·.oneCell') = true)
    (h : ∀ W, w.grownBy W (some g) → Row W g T cs → wpList P ops Q rest (a.put o.dst undef) W) : wpList P ops Q (o :: rest) a w :=
  wpList_store_row hg T x y ho g cs hx hy T old hr hi hold h1 (h _ (grownBy_setRow _ _ _) (setRow_heap _ _ _ _ _ _ hr))

theorem wpList_boxed {ops : Array Oper} {rest : List Oper} {o : Oper} {a : Act} {w : World} {Q : Exit → Act → World → Prop} (hg : o.guard = none) {T : TypeId} {x : Operand} (ho : o.op = .box T x)
    (cs : Array Value) (hx : a.eval x = .agg cs)
    (h : ∀ W, W.heap.size = w.heap.size + 1 → w.grownBy W none → Row W w.heap.size T cs → wpList P ops Q rest (a.put o.dst (.pointer (some ⟨w.heap.size, 0, none⟩))) W) :
    wpList P ops Q (o :: rest) a w := by
  refine wpList_plain hg fun K hK => ?_
  unfold Oper.wp
  rw [run_box_op w a.eval ho, Oper.upon_value, hx]
  refine hK _ _ ?_
  exact h _ (by simp) (World.grownBy_alloc w (.cells cs T) none) (heap_alloc_new w (.cells cs T))

end

section
variable {P : Program}
theorem run_load_op (w : World) (ev : Operand → Value) {o : Oper} (ty : TypeId) (x : Operand) (ho : o.op = .load ty x) (g : Nat) (hx : ev x = .pointer (some ⟨g, 0, none⟩)) (t : TypeId) (cs : Array Value) {d : TypeDesc} (hg : Row w g t cs)
    (hu : P.underlying ty = some d) (hd : (match d with | .struct _ | .array _ _ => true | _ => false) = true) (hi : (P.info? ty).map (·.size) = some cs.size) : (execOp ev o).run P w = .ok (.value (.agg cs)) w := by
  unfold execOp
  simp only [ho, hx, Instr.loadAt, Instr.sureAddr, Sem.run_bind, Sem.run_pure, Result.andThen_ok, run_loadVar_row w g t ty cs (0, 0) d hg hu hd hi]
theorem run_eql_op (w : World) (ev : Operand → Value) {o : Oper} {t ty : TypeId} (hgu : P.eqGuardType P.depth t = false) {x y : Operand} (ho : o.op = .binOp .eql t x y ty) (xs ys : Array Value) (hx : ev x = .agg xs) (hy : ev y = .agg ys) {v : Value} (h : (binOp .eql t (.agg xs) (.agg ys)).run P w = .ok v w) : (execOp ev o).run P w = .ok (.value v) w := by
  unfold execOp
  simp [ho, hx, hy, run_eqGuard_agg w .eql t x y xs ys hgu, h]
end

end Go.Proofs.Ythemlaibjchjpaa
/- Variables of one cell that lie in memory: each a letter for the world; rows of bytes; rows of zeros that are made. -/
namespace Go.Proofs.Ythemlaibjchjpaa
open Go.RowKit

theorem cells_one {v : Value} (h : v.oneCell' = true) : v.cells = #[v] := by cases v <;> first | rfl | cases h

section
variable {P : Program} {ops : Array Oper} {rest : List Oper} {a : Act} {w : World} {Q : Exit → Act → World → Prop}

theorem wpList_fresh1 {o1 o2 : Oper} (hg1 : o1.guard = none) (hg2 : o2.guard = none) {T : TypeId} {d : Tmp} {x : Operand}
    (ho1 : o1.op = .alloc T) (hd : o1.dst = some d) (ho2 : o2.op = .store T (.tmp d) x) {i : TypeInfo} (hi : P.info? T = some i) {z : Value} (hz : i.zero = some z) (hsz : i.size = 1) (hz1 : z.oneCell' = true)
    (v : Value) (hp : (a.put (some d) (.pointer (some ⟨w.heap.size, 0, none⟩))).eval (.tmp d) = .pointer (some ⟨w.heap.size, 0, none⟩)) (hx : (a.put (some d) (.pointer (some ⟨w.heap.size, 0, none⟩))).eval x = v)
    (h1 : v.oneCell' = true)
    (h : ∀ W, W.heap.size = w.heap.size + 1 → w.grownBy W none → Row W w.heap.size T #[v] → wpList P ops Q rest ((a.put (some d) (.pointer (some ⟨w.heap.size, 0, none⟩))).put o2.dst undef) W) :
    wpList P ops Q (o1 :: o2 :: rest) a w := by
  refine wpList_plain hg1 fun K hK => ?_
  unfold Oper.wp
  rw [run_alloc_op w a.eval ho1 hi hz, Oper.upon_value, cells_one hz1]
  refine hK _ _ ?_
  rw [hd]
  have hrow : (w.alloc (.cells #[z] T)).heap[w.heap.size]? = some (.cells #[z] T (0, 0)) := heap_alloc_new w _
  refine wpList_store_one hg2 T (.tmp d) x ho2 w.heap.size hp (by rw [hx]; exact h1) T z hrow (by rw [hi]; simp [hsz]) ?_
  rw [hx]
  refine h _ (by simp) ?_ (setRow_heap _ _ _ _ _ _ hrow)
  exact grownBy_old (World.grownBy_alloc w (.cells #[z] T) none) (grownBy_setRow _ w.heap.size #[v]) (Nat.le_refl _)

theorem wpList_put1 {o : Oper} (hg : o.guard = none) {T : TypeId} {x y : Operand} (ho : o.op = .store T x y)
    (g : Nat) (hx : a.eval x = .pointer (some ⟨g, 0, none⟩)) (v : Value) (hy : a.eval y = v) {old : Value} (hr : Row w g T #[old]) (hi : (P.info? T).map (·.size) = some 1) (h1 : v.oneCell' = true)
    (h : ∀ W, W.heap.size = w.heap.size → w.grownBy W (some g) → Row W g T #[v] → wpList P ops Q rest (a.put o.dst undef) W) : wpList P ops Q (o :: rest) a w := by
  refine wpList_store_one hg T x y ho g hx (by rw [hy]; exact h1) T old hr hi ?_
  rw [hy]
  exact h _ (by simp) (grownBy_setRow _ _ _) (setRow_heap _ _ _ _ _ _ hr)

theorem wpList_box1 {o : Oper} (hg : o.guard = none) {T : TypeId} {x : Operand} (ho : o.op = .box T x)
    (v : Value) (hx : a.eval x = v) (h1 : v.oneCell' = true)
    (h : ∀ W, W.heap.size = w.heap.size + 1 → w.grownBy W none → Row W w.heap.size T #[v] → wpList P ops Q rest (a.put o.dst (.pointer (some ⟨w.heap.size, 0, none⟩))) W) :
    wpList P ops Q (o :: rest) a w := by
  refine wpList_plain hg fun K hK => ?_
  unfold Oper.wp
  rw [run_box_op w a.eval ho, Oper.upon_value, hx, cells_one h1]
  refine hK _ _ ?_
  exact h _ (by simp) (World.grownBy_alloc w (.cells #[v] T) none) (heap_alloc_new w (.cells #[v] T))

end

/-- bytes as cells -/
def rowB (l : List UInt8) : Array Value := (l.map bval).toArray
theorem rowB_size (l : List UInt8) : (rowB l).size = l.length := by simp [rowB]
/-- the block g holds these bytes, and nothing else -/
def BRow (w : World) (g : Nat) (t : TypeId) (l : List UInt8) : Prop := Row w g t (rowB l)
section
variable {w w' : World} {g : Nat} {t : TypeId} {l : List UInt8}
theorem BRow.lt (h : BRow w g t l) : g < w.heap.size := Row.lt h
theorem BRow.cell (h : BRow w g t l) (k : Nat) (hk : k < l.length) : w.cell? ⟨g, k, none⟩ = some (.int .u8 ((l.getD k 0).toNat : Int)) := by
  rw [Row.cell h k]
  simp [rowB, hk, bval]
theorem BRow.frozen (h : BRow w g t l) (k : Nat) : w.frozen? ⟨g, k, none⟩ = false := Row.frozen h k
theorem BRow.set (h : BRow w g t l) (k : Nat) (x : UInt8) : BRow (w.setCell ⟨g, k, none⟩ (.int .u8 (x.toNat : Int))) g t (l.set k x) := by
  have h' := Row.setc h k (.int .u8 (x.toNat : Int))
  unfold BRow
  rw [show rowB (l.set k x) = (rowB l).setIfInBounds k (.int .u8 (x.toNat : Int)) by unfold rowB; rw [List.map_set, ← List.setIfInBounds_toArray]; rfl]
  exact h'
theorem BRow.grown (h : BRow w g t l) (hg : w.grownBy w' none) : BRow w' g t l := Row.grown h hg
theorem BRow.grownNe {g' : Nat} (h : BRow w g t l) (hg : w.grownBy w' (some g')) (hne : g ≠ g') : BRow w' g t l := Row.grownNe h hg hne
theorem BRow.lies (h : BRow w g t l) : BLies w (some ⟨g, 0, none⟩) l := by
  intro k hk
  refine ⟨g, 0, rfl, ?_⟩
  rw [Nat.zero_add, BRow.cell h k hk]
  simp [hk]
theorem BRow.own (h : BRow w g t l) {base : Nat} (hb : base ≤ g) (n : Nat) (hn : l.length = n) (hm : n ≤ maxLen) : Own w base t 1 (some ⟨g, 0, none⟩) n n (l.map bval) := by
  subst hn
  exact ⟨by simp, .inr ⟨g, rowB l, rfl, hb, h, Nat.le_refl _, hm, by simp [rowB], by simp [rowB, List.take_of_length_le]⟩⟩
end
theorem BRow.ownTake {w : World} {g : Nat} {t : TypeId} {l : List UInt8} (h : BRow w g t l) {base : Nat} (hb : base ≤ g) (k n : Nat) (hn : l.length = n) (hk : k ≤ n) (hm : n ≤ maxLen) : Own w base t 1 (some ⟨g, 0, none⟩) k n ((l.take k).map bval) := by
  subst hn
  exact ⟨by simp [hk], .inr ⟨g, rowB l, rfl, hb, h, hk, hm, by simp [rowB], by simp [rowB]⟩⟩

section
variable {P : Program} {ops : Array Oper} {rest : List Oper} {a : Act} {w : World} {Q : Exit → Act → World → Prop}
theorem madeCells_u8 (n : Nat) : madeCells #[.int .u8 0] n = rowB (List.replicate n 0) := by
  apply Array.toList_inj.1
  simp [madeCells, rowB]
  apply List.ext_getElem
  · simp
  · intro i h1 h2
    simp [Nat.mod_one, bval]
theorem wpList_mkB {o : Oper} (hg : o.guard = none) (l c : Operand) (t : TypeId) (hop : o.op = Op.makeSlice t l c) (e : TypeId) {i : TypeInfo} (ht : P.underlying t = some (.slice e)) (hi : P.info? e = some i) (hz : i.zero = some (.int .u8 0)) (hsize : i.size = 1) (hby : i.bytes = 1)
    (n : Nat) (hl : a.eval l = .int .i64 (n : Int)) (hc : a.eval c = .int .i64 (n : Int)) (hn : n ≤ 281474976710656)
    (h : ∀ W, W.heap.size = w.heap.size + 1 → w.grownBy W none → BRow W w.heap.size e (List.replicate n 0) → wpList P ops Q rest (a.put o.dst (.slice (some ⟨w.heap.size, 0, none⟩) n n)) W) :
    wpList P ops Q (o :: rest) a w := by
  refine wpList_make_row w hg l c t hop e i (.int .u8 0) ht hi hz hsize rfl .i64 .i64 n hl hc (by rw [hby]; omega) (by omega) ?_
  rw [madeCells_u8]
  exact h _ (by simp) (World.grownBy_alloc w _ none) (heap_alloc_new w _)
end

end Go.Proofs.Ythemlaibjchjpaa
/- What a stretch of a walk may change: Ch, for rows that are owned, boxes, bytes that are read. -/
namespace Go.Proofs.Ythemlaibjchjpaa
open Go.RowKit

theorem Ch.ofNone {w w' : World} (h : w.grownBy w' none) (S : Nat → Prop) : Ch S w w' := ⟨h.os, h.tape, h.output, h.size, fun k hk _ => h.block k hk (by simp)⟩
theorem Ch.ofSome {w w' : World} {g : Nat} (h : w.grownBy w' (some g)) {S : Nat → Prop} (hS : S g) : Ch S w w' :=
  ⟨h.os, h.tape, h.output, h.size, fun k hk hn => h.block k hk (by simp only [ne_eq, Option.some.injEq]; intro e; exact hn (e ▸ hS))⟩
theorem Ch.then {S : Nat → Prop} {a b c : World} (h : Ch S a b) (k : b.grownBy c none) : Ch S a c := h.trans (Ch.ofNone k S) (fun _ _ h => h)
theorem Ch.mono {S T : Nat → Prop} {a b : World} (h : Ch S a b) (hT : ∀ g, g < a.heap.size → S g → T g) : Ch T a b := ⟨h.os, h.tape, h.output, h.size, fun k hk hn => h.block k hk (fun hs => hn (hT k hk hs))⟩
theorem Ch.fresh {S : Nat → Prop} {w0 w w' : World} (hg : w0.grownBy w none) (h : Ch S w w') (hS : ∀ g, g < w0.heap.size → ¬ S g) : w0.grownBy w' none :=
  ⟨h.os.trans hg.os, h.tape.trans hg.tape, h.output.trans hg.output, Nat.le_trans hg.size h.size, fun k hk _ => (h.block k (Nat.lt_of_lt_of_le hk hg.size) (hS k hk)).trans (hg.block k hk (by simp))⟩
theorem Ch.some' {w w' : World} {g : Nat} {S : Nat → Prop} (h : Ch S w w') (hS : ∀ k, k < w.heap.size → S k → k = g) : w.grownBy w' (some g) :=
  ⟨h.os, h.tape, h.output, h.size, fun k hk hn => h.block k hk (fun hs => hn (by rw [hS k hk hs]))⟩
theorem Own.ch {S : Nat → Prop} {w w' : World} {base : Nat} {e : TypeId} {size : Nat} {a : Option Addr} {n c : Nat} {xs : List Value} (h : Own w base e size a n c xs) (hc : Ch S w w') (hS : 0 < c → ∀ g, a = some ⟨g, 0, none⟩ → ¬ S g) : Own w' base e size a n c xs :=
  h.kept' fun h0 g e hl => hc.block g hl (hS h0 g e)
theorem Row.ch {S : Nat → Prop} {w w' : World} {g : Nat} {t : TypeId} {cs : Array Value} (h : Row w g t cs) (hc : Ch S w w') (hS : ¬ S g) : Row w' g t cs := (hc.block g h.lt hS).trans h
theorem BLies.ch {S : Nat → Prop} {w w' : World} {a : Option Addr} {l : List UInt8} (h : BLies w a l) (hc : Ch S w w') (hS : ∀ b off, a = some ⟨b, off, none⟩ → ¬ S b) : BLies w' a l :=
  h.heap fun b off e hl => hc.block b hl (hS b off e)
/-- the block of what is owned -/
def In (a : Option Addr) (c : Nat) (g : Nat) : Prop := 0 < c ∧ a = some ⟨g, 0, none⟩
theorem Own.inn {w : World} {base : Nat} {e : TypeId} {size : Nat} {a : Option Addr} {n c : Nat} {xs : List Value} (h : Own w base e size a n c xs) {g : Nat} (hi : In a c g) : base ≤ g ∧ g < w.heap.size := by
  obtain ⟨g', e1, h1, h2⟩ := Own.block h hi.1
  rw [hi.2] at e1; injection e1 with e1; injection e1 with e1
  omega
/-- an append is a change of its own block alone -/
theorem GrewP.ch {w w1 : World} {a : Option Addr} {c : Nat} {a' : Option Addr} {c' : Nat} (h : GrewP w w1 a c a' c') : Ch (In a c) w w1 := by
  rcases h with ⟨g, rfl, rfl, hc, _, hg⟩ | ⟨g, _, _, hg⟩
  · exact Ch.ofSome hg ⟨hc, rfl⟩
  · exact Ch.ofNone hg _
/-- the block behind an append: the same, or a new one -/
theorem GrewP.inn {w w1 : World} {a : Option Addr} {c : Nat} {a' : Option Addr} {c' : Nat} (h : GrewP w w1 a c a' c') {g : Nat} (hi : In a' c' g) : In a c g ∨ w.heap.size ≤ g := by
  rcases h with ⟨g', e, rfl, hc, rfl, hg⟩ | ⟨g', e, hge, hg⟩
  · exact .inl hi
  · rw [e] at hi
    obtain ⟨_, h2⟩ := hi
    injection h2 with h2; injection h2 with h2
    subst h2
    exact .inr hge

end Go.Proofs.Ythemlaibjchjpaa
/- octet's reader: NewReader, take, Bytes, Left, End of a reader that was made. -/
namespace Go.Proofs.Ythemlaibjchjpaa
open Go.RowKit

/-- a reader that was made: is it at fault, what is left -/
structure Rdr (w : World) (g : Nat) (f : Bool) (rem : List UInt8) (la : Option Addr) (lm lc : Nat) : Prop where
  row : Row w g 67 #[.slice la lm lc, .bool true, .bool f]
  lies : BLies w la rem
  len : rem.length = lm
  cap : lm ≤ lc
  big : lc ≤ maxLen
  apart : 0 < lm → ∀ b off, la = some ⟨b, off, none⟩ → b ≠ g
theorem Rdr.grown {w w' : World} {g : Nat} {f : Bool} {rem : List UInt8} {la : Option Addr} {lm lc : Nat} (h : Rdr w g f rem la lm lc) (hg : w.grownBy w' none) : Rdr w' g f rem la lm lc :=
  ⟨h.row.grown hg, h.lies.grown hg, h.len, h.cap, h.big, h.apart⟩

set_option maxRecDepth 100000 in
set_option maxHeartbeats 1000000 in
theorem newReader_n (a : Option Addr) (c n : Nat) (l : List UInt8) (w : World) (ha : BLies w a l) (hl : l.length = n) (hn : n ≤ 4000000100) :
    Calls Try.prog 32 #[.slice a n c] w fun e w' => ∃ g la lc, e = .returned (.pointer (some ⟨g, 0, none⟩)) ∧ w.heap.size ≤ g ∧ Rdr w' g false l la n lc ∧ w.grownBy w' none := by
  have HC := Lib.hid (clone_n a c n l w ha hl hn)
  have HL := Lib.hid hl
  clear ha hl
  go_enter Try.func32, Try.ntmps32
  go_wp2_with fail
  refine HC.out.mono ?_
  rintro e w1 ⟨a', c', rfl, ho, hg⟩
  have HO := Lib.hid ho
  have HG := Lib.hid hg
  clear ho hg
  go_wp2_with (refine wpList_boxed rfl rfl #[.slice a' n c', .bool true, .bool false] rfl ?_; intro w2 hs2 hg2 hr2; have HG2 := Lib.hid hg2; have HR2 := Lib.hid hr2; clear hs2 hg2 hr2)
  go_ret
  refine ⟨_, a', c', rfl, HG.out.size, ⟨HR2.out, (BOwn.lies HO.out).grown HG2.out, HL.out, HO.out.cap.1, HO.out.cap.2, fun h0 b off e => ?_⟩, grownBy_trans HG.out HG2.out⟩
  obtain ⟨g, e', _, h2⟩ := Own.block HO.out (by have := HO.out.cap.1; omega)
  rw [e'] at e
  injection e with e; injection e with e
  omega
theorem Rdr.set {w : World} {g : Nat} {f : Bool} {rem : List UInt8} {la : Option Addr} {lm lc : Nat} (h : Rdr w g f rem la lm lc) (k : Nat) (v : Value) : BLies (w.setCell ⟨g, k, none⟩ v) la rem := by
  intro i hi
  obtain ⟨b, off, e, hc⟩ := h.lies i hi
  refine ⟨b, off, e, ?_⟩
  have hne := h.apart (by have := h.len; omega) b off e
  exact (World.cell?_of_block (Below.heap_setCell _ _ _ _ hne)).trans hc

set_option maxRecDepth 100000 in
set_option maxHeartbeats 1000000 in
theorem left_n (g : Nat) (rem : List UInt8) (la : Option Addr) (lm lc : Nat) (w : World) (h : Rdr w g false rem la lm lc) :
    Calls Try.prog 33 #[.pointer (some ⟨g, 0, none⟩)] w fun e w' => e = .returned (.int .i64 (lm : Int)) ∧ w = w' := by
  have c0 := Row.cell h.row 0
  have c1 := Row.cell h.row 1
  have c2 := Row.cell h.row 2
  simp at c0 c1 c2
  clear h
  go_enter Try.func33, Try.ntmps33
  go_wp2_with fail
  go_ret
  exact ⟨rfl, rfl⟩

set_option maxRecDepth 100000 in
set_option maxHeartbeats 1000000 in
theorem end_n (g : Nat) (f : Bool) (rem : List UInt8) (la : Option Addr) (lm lc : Nat) (w : World) (h : Rdr w g f rem la lm lc) :
    Calls Try.prog 36 #[.pointer (some ⟨g, 0, none⟩)] w fun e w' => e = .returned (.int .i64 ((if f = true then 10 else if 0 < lm then 11 else 0 : Nat) : Int)) ∧ w = w' := by
  have c0 := Row.cell h.row 0
  have c1 := Row.cell h.row 1
  have c2 := Row.cell h.row 2
  simp at c0 c1 c2
  clear h
  cases f with
  | true =>
    rw [if_pos rfl]
    go_enter Try.func36, Try.ntmps36
    go_wp2_with fail
    go_ret
    exact ⟨rfl, rfl⟩
  | false =>
    rw [if_neg (by simp)]
    by_cases hl : 0 < lm
    · rw [if_pos hl]
      have hd : decide ((0 : Int) < (lm : Int)) = true := by simp; omega
      go_enter Try.func36, Try.ntmps36
      go_wp2_with fail
      go_ret
      exact ⟨rfl, rfl⟩
    · rw [if_neg hl]
      obtain rfl : lm = 0 := by omega
      go_enter Try.func36, Try.ntmps36
      go_wp2_with fail
      go_ret
      exact ⟨rfl, rfl⟩

/-- what taking does: what comes, and how the reader is left -/
structure Took (w w' : World) (g : Nat) (f : Bool) (rem : List UInt8) (la : Option Addr) (a : Option Addr) (n : Nat) (p : List UInt8) (f' : Bool) (rem' : List UInt8) (la' : Option Addr) (lm' lc' : Nat) : Prop where
  lies : BLies w' a p
  len : p.length = n
  rdr : Rdr w' g f' rem' la' lm' lc'
  step : f' = false → f = false ∧ rem = p ++ rem'
  short : p.length + rem'.length ≤ rem.length
  grown : w.grownBy w' (some g)
  src : 0 < lm' → ∀ b off, la' = some ⟨b, off, none⟩ → ∃ o, la = some ⟨b, o, none⟩

/-- .. told behind the call -/
def TookP (w : World) (g : Nat) (f : Bool) (rem : List UInt8) (la : Option Addr) (e : Ending) (w' : World) : Prop :=
  ∃ a n c ok p f' rem' la' lm' lc', e = .returned (.tuple #[.slice a n c, .bool ok]) ∧ Took w w' g f rem la a n p f' rem' la' lm' lc'
theorem drop_lies {w : World} {b off : Nat} {l : List UInt8} (h : BLies w (some ⟨b, off, none⟩) l) (f : Nat) : BLies w (some ⟨b, off + f, none⟩) (l.drop f) := by
  intro k hk
  rw [List.length_drop] at hk
  obtain ⟨b', off', e, hc⟩ := h (f + k) (by omega)
  injection e with e; injection e with e1 e2
  subst e1; subst e2
  refine ⟨b, off + f, rfl, ?_⟩
  rw [Nat.add_assoc, hc]
  simp

set_option maxRecDepth 100000 in
set_option maxHeartbeats 4000000 in
theorem take_n (g : Nat) (f : Bool) (rem : List UInt8) (la : Option Addr) (lm lc : Nat) (x : Int) (w : World) (h : Rdr w g f rem la lm lc) :
    Calls Try.prog 68 #[.pointer (some ⟨g, 0, none⟩), .int .i64 x] w fun e w' => TookP w g f rem la e w' := by
  have c0 := Row.cell h.row 0
  have c1 := Row.cell h.row 1
  have c2 := Row.cell h.row 2
  have f0 := Row.frozen h.row 0
  have f2 := Row.frozen h.row 2
  simp at c0 c1 c2
  have H := Lib.hid h
  have hcap := h.cap
  have hbig := h.big
  clear h
  cases f with
  | true =>
    go_enter Try.func68, Try.ntmps68
    go_wp2_with fail
    go_ret2
    exact ⟨none, 0, 0, false, [], true, rem, la, lm, lc, rfl, BLies.nil _ _, rfl, H.out, fun h => (by cases h), by simp, World.grownBy.refl _ _, fun _ b off e => ⟨off, e⟩⟩
  | false =>
    by_cases hx : x < 0
    · have hd : decide (x < 0) = true := by simpa using hx
      go_enter Try.func68, Try.ntmps68
      go_wp2_with fail
      go_ret2
      refine ⟨none, 0, 0, false, [], true, rem, la, lm, lc, rfl, BLies.nil _ _, rfl, ⟨?_, H.out.set _ _, H.out.len, H.out.cap, H.out.big, H.out.apart⟩, fun h => (by cases h), by simp, grownBy_setCell _ _ _ _, fun _ b off e => ⟨off, e⟩⟩
      exact Row.setc H.out.row 2 (.bool true)
    · obtain ⟨n, rfl⟩ : ∃ n : Nat, x = (n : Int) := ⟨x.toNat, by omega⟩
      have hd : decide ((n : Int) < 0) = false := by simp
      by_cases hn : lm < n
      · have hd2 : decide ((lm : Int) < (n : Int)) = true := by simp; omega
        have hd3 : decide (lm < n) = true := by simp; omega
        go_enter Try.func68, Try.ntmps68
        go_wp2_with fail
        go_ret2
        refine ⟨none, 0, 0, false, [], true, rem, la, lm, lc, rfl, BLies.nil _ _, rfl, ⟨?_, H.out.set _ _, H.out.len, H.out.cap, H.out.big, H.out.apart⟩, fun h => (by cases h), by simp, grownBy_setCell _ _ _ _, fun _ b off e => ⟨off, e⟩⟩
        exact Row.setc H.out.row 2 (.bool true)
      · have hd2 : decide ((lm : Int) < (n : Int)) = false := by simp; omega
        have hd3 : decide (lm < n) = false := by simp; omega
        have hnc : n ≤ lc := by omega
        have hnl : n ≤ lm := by omega
        rcases Nat.eq_zero_or_pos n with rfl | hpos
        · have hrow : Row (w.setCell ⟨g, 0, none⟩ (.slice la lm lc)) g 67 #[.slice la lm lc, .bool true, .bool false] := Row.setc H.out.row 0 _
          have hadd0 : ∀ a : Addr, a.add 0 = a := fun a => by simp [Addr.add]
          have hm0 : la.map (fun a => a.add 0) = la := by cases la <;> simp [hadd0]
          have HROW := Lib.hid hrow
          clear hrow
          by_cases hc0 : lc = 0
          · subst hc0
            obtain rfl : lm = 0 := by omega
            go_enter Try.func68, Try.ntmps68
            go_wp2_with fail
            go_ret2
            exact ⟨la, 0, 0, true, [], false, rem, la, 0, 0, rfl, ⟨fun k hk => absurd hk (by simp), rfl, ⟨HROW.out, H.out.set _ _, H.out.len, H.out.cap, H.out.big, H.out.apart⟩, fun _ => ⟨rfl, rfl⟩, by simp, grownBy_setCell _ _ _ _, fun _ b off e => ⟨off, e⟩⟩⟩
          · go_enter Try.func68, Try.ntmps68
            go_wp2_with fail
            go_ret2
            exact ⟨la, 0, 0, true, [], false, rem, la, lm, lc, rfl, ⟨fun k hk => absurd hk (by simp), rfl, ⟨HROW.out, H.out.set _ _, H.out.len, H.out.cap, H.out.big, H.out.apart⟩, fun _ => ⟨rfl, rfl⟩, by simp, grownBy_setCell _ _ _ _, fun _ b off e => ⟨off, e⟩⟩⟩
        · obtain ⟨b, off, rfl⟩ := H.out.lies.addr (by have := H.out.len; omega)
          have hap := H.out.apart (by omega) b off rfl
          have hlen := H.out.len
          have htl : (rem.take n).length = n := by rw [List.length_take]; omega
          have hdl : (rem.drop n).length = lm - n := by rw [List.length_drop, hlen]
          have hadd : (⟨b, off, none⟩ : Addr).add n = ⟨b, off + n, none⟩ := by unfold Addr.add; split <;> simp_all
          have HTL := Lib.hid htl
          have HDL := Lib.hid hdl
          have HLEN := Lib.hid hlen
          by_cases hcn : lc = n
          · subst hcn
            obtain rfl : lm = lc := by omega
            have hsub : lm - lm = 0 := Nat.sub_self _
            clear htl hdl hlen hadd
            go_enter Try.func68, Try.ntmps68
            go_wp2_with fail
            go_ret2
            have hbs := H.out.set 0 (.slice (some ⟨b, off, none⟩) 0 0)
            refine ⟨some ⟨b, off, none⟩, lm, lm, true, rem.take lm, false, rem.drop lm, some ⟨b, off, none⟩, 0, 0, rfl, ⟨hbs.take lm, HTL.out, ⟨Row.setc H.out.row 0 _, fun k hk => absurd hk (by rw [HDL.out]; omega), by rw [HDL.out]; omega, Nat.le_refl _, by omega, fun h => absurd h (by omega)⟩, fun _ => ⟨rfl, (List.take_append_drop _ _).symm⟩, by rw [HTL.out, HDL.out, HLEN.out]; omega, grownBy_setCell _ _ _ _, fun h => absurd h (by omega)⟩⟩
          · have hsubl : (lm : Int) - (n : Int) = ((lm - n : Nat) : Int) := by omega
            clear htl hdl hlen
            go_enter Try.func68, Try.ntmps68
            go_wp2_with fail
            go_ret2
            have hbs := H.out.set 0 (.slice (some ⟨b, off + n, none⟩) (lm - n) (lc - n))
            refine ⟨some ⟨b, off, none⟩, n, n, true, rem.take n, false, rem.drop n, some ⟨b, off + n, none⟩, lm - n, lc - n, rfl, ⟨hbs.take n, HTL.out, ⟨Row.setc H.out.row 0 _, drop_lies hbs n, HDL.out, by omega, by omega, fun _ b' off' e => by injection e with e; injection e with e; omega⟩, fun _ => ⟨rfl, (List.take_append_drop _ _).symm⟩, by rw [HTL.out, HDL.out, HLEN.out]; omega, grownBy_setCell _ _ _ _, fun _ b' off' e => by injection e with e; injection e with e1 e2; subst e1; exact ⟨off, rfl⟩⟩⟩

/-- what Bytes does -/
def BytesP (w : World) (g : Nat) (f : Bool) (rem : List UInt8) (la : Option Addr) (e : Ending) (w' : World) : Prop :=
  ∃ a n c p f' rem' la' lm' lc', e = .returned (.slice a n c) ∧ BOwn w' w.heap.size a n c p ∧ Rdr w' g f' rem' la' lm' lc' ∧ (f' = false → f = false ∧ rem = p ++ rem') ∧ p.length + rem'.length ≤ rem.length ∧ w.grownBy w' (some g) ∧
    (0 < lm' → ∀ b off, la' = some ⟨b, off, none⟩ → ∃ o, la = some ⟨b, o, none⟩)

set_option maxRecDepth 100000 in
set_option maxHeartbeats 1000000 in
theorem bytes_n (g : Nat) (f : Bool) (rem : List UInt8) (la : Option Addr) (lm lc : Nat) (x : Int) (w : World) (h : Rdr w g f rem la lm lc) (hb : lm ≤ 4000000000) :
    Calls Try.prog 34 #[.pointer (some ⟨g, 0, none⟩), .int .i64 x] w fun e w' => BytesP w g f rem la e w' := by
  have HT := Lib.hid (take_n g f rem la lm lc x w h)
  have HLN := Lib.hid h.len
  clear h
  go_enter Try.func34, Try.ntmps34
  go_wp2_with fail
  refine HT.out.mono ?_
  rintro e w1 ⟨a, n, c, ok, p, f', rem', la', lm', lc', rfl, ht⟩
  have HK := Lib.hid ht
  have hs := ht.short
  have hl := ht.len
  have hln := HLN.out
  have hcl := clone_n a c n p w1 ht.lies ht.len (by omega)
  have HCL := Lib.hid hcl
  clear ht hs hl hln hcl
  go_wp2_with fail
  refine HCL.out.mono ?_
  rintro e w2 ⟨a2, c2, rfl, ho, hg⟩
  have HO := Lib.hid ho
  have HG := Lib.hid hg
  clear ho hg
  go_wp2_with fail
  go_ret
  exact ⟨a2, n, c2, p, f', rem', la', lm', lc', rfl, Own.mono HO.out HK.out.grown.size, HK.out.rdr.grown HG.out, HK.out.step, HK.out.short, grownBy_trans HK.out.grown (grownBy_some HG.out _), HK.out.src⟩

end Go.Proofs.Ythemlaibjchjpaa
/- octet.width at each instance: a loop of one round a byte. -/
namespace Go.Proofs.Ythemlaibjchjpaa
open Go.RowKit

set_option maxRecDepth 100000 in
set_option maxHeartbeats 400000 in
theorem width8_any (w : World) : Calls Try.prog 78 #[] w fun e w' => e = .returned (.int .i64 1) ∧ w = w' := by
  go_enter Try.func78, Try.ntmps78
  go_wp2
  go_rounds 2
  go_ret
  exact ⟨rfl, rfl⟩

set_option maxRecDepth 100000 in
set_option maxHeartbeats 400000 in
theorem width16_any (w : World) : Calls Try.prog 75 #[] w fun e w' => e = .returned (.int .i64 2) ∧ w = w' := by
  go_enter Try.func75, Try.ntmps75
  go_wp2
  go_rounds 3
  go_ret
  exact ⟨rfl, rfl⟩

set_option maxRecDepth 100000 in
set_option maxHeartbeats 400000 in
theorem width32_any (w : World) : Calls Try.prog 77 #[] w fun e w' => e = .returned (.int .i64 4) ∧ w = w' := by
  go_enter Try.func77, Try.ntmps77
  go_wp2
  go_rounds 5
  go_ret
  exact ⟨rfl, rfl⟩

set_option maxRecDepth 100000 in
set_option maxHeartbeats 400000 in
theorem width64_any (w : World) : Calls Try.prog 76 #[] w fun e w' => e = .returned (.int .i64 8) ∧ w = w' := by
  go_enter Try.func76, Try.ntmps76
  go_wp2
  go_rounds 9
  go_ret
  exact ⟨rfl, rfl⟩

end Go.Proofs.Ythemlaibjchjpaa
/- octet.Big at each instance. -/
namespace Go.Proofs.Ythemlaibjchjpaa
open Go.RowKit

/-- the k bytes of a number, the highest first -/
def bigL : Nat → Nat → List UInt8
  | 0, _ => []
  | k + 1, x => bigL k (x / 256) ++ [UInt8.ofNat x]
theorem bigL_length (k : Nat) : ∀ x, (bigL k x).length = k := by
  induction k with
  | zero => intro x; rfl
  | succ k ih => intro x; simp [bigL, ih]
theorem u8i (n : Nat) : ((UInt8.ofNat n).toNat : Int) = (n : Int) % 256 := by
  rw [UInt8.toNat_ofNat']; omega
theorem val_u8 {a b : Int} (h : a = b) : Value.int .u8 a = Value.int .u8 b := by rw [h]

theorem own_new (w : World) (l : List UInt8) (n : Nat) (hn : l.length = n) (hm : n ≤ maxLen) : BOwn (w.alloc (.cells (l.map bval).toArray 5)) w.heap.size (some ⟨w.heap.size, 0, none⟩) n n l := by
  subst hn
  exact ⟨by simp, .inr ⟨w.heap.size, _, rfl, Nat.le_refl _, heap_alloc_new w _, Nat.le_refl _, hm, by simp, by simp [List.take_of_length_le]⟩⟩

set_option maxRecDepth 100000 in
set_option maxHeartbeats 400000 in
theorem big8_any (x : Nat) (hx : x < 256) (w : World) : Calls Try.prog 62 #[.int .u8 x] w fun e w' => e = .returned (.slice (some ⟨w.heap.size, 0, none⟩) 1 1) ∧ w' = w.alloc (.cells ((bigL 1 x).map bval).toArray 5) := by
  have hmk : ∀ w, (Instr.makeSlice 22 (.int .i64 1) (.int .i64 1)).run Try.prog w = .ok (.slice (some ⟨w.heap.size, 0, none⟩) 1 1) (w.alloc (.cells #[.int .u8 0] 5)) := fun _ => by kernel_rfl
  go_enter Try.func62, Try.ntmps62
  go_wp2_with (go_at_call 78; refine (width8_any _).mono ?_; rintro e w' ⟨rfl, rfl⟩)
  go_rounds 2
  go_ret
  refine ⟨rfl, ?_⟩
  refine congrArg (fun c : List Value => w.alloc (.cells c.toArray 5)) ?_
  simp only [bigL, List.nil_append, List.cons_append, List.map_cons, List.map_nil, bval, u8i]
  repeat (first | (refine congr (congrArg List.cons (val_u8 (by omega))) ?_) | rfl)

set_option maxRecDepth 100000 in
set_option maxHeartbeats 400000 in
theorem big16_any (x : Nat) (hx : x < 65536) (w : World) : Calls Try.prog 49 #[.int .u16 x] w fun e w' => e = .returned (.slice (some ⟨w.heap.size, 0, none⟩) 2 2) ∧ w' = w.alloc (.cells ((bigL 2 x).map bval).toArray 5) := by
  have hmk : ∀ w, (Instr.makeSlice 22 (.int .i64 2) (.int .i64 2)).run Try.prog w = .ok (.slice (some ⟨w.heap.size, 0, none⟩) 2 2) (w.alloc (.cells #[.int .u8 0, .int .u8 0] 5)) := fun _ => by kernel_rfl
  go_enter Try.func49, Try.ntmps49
  go_wp2_with (go_at_call 75; refine (width16_any _).mono ?_; rintro e w' ⟨rfl, rfl⟩)
  go_rounds 3
  go_ret
  refine ⟨rfl, ?_⟩
  refine congrArg (fun c : List Value => w.alloc (.cells c.toArray 5)) ?_
  simp only [bigL, List.nil_append, List.cons_append, List.map_cons, List.map_nil, bval, u8i]
  repeat (first | (refine congr (congrArg List.cons (val_u8 (by omega))) ?_) | rfl)

set_option maxRecDepth 100000 in
set_option maxHeartbeats 400000 in
theorem big32_any (x : Nat) (hx : x < 4294967296) (w : World) : Calls Try.prog 63 #[.int .u32 x] w fun e w' => e = .returned (.slice (some ⟨w.heap.size, 0, none⟩) 4 4) ∧ w' = w.alloc (.cells ((bigL 4 x).map bval).toArray 5) := by
  have hmk : ∀ w, (Instr.makeSlice 22 (.int .i64 4) (.int .i64 4)).run Try.prog w = .ok (.slice (some ⟨w.heap.size, 0, none⟩) 4 4) (w.alloc (.cells #[.int .u8 0, .int .u8 0, .int .u8 0, .int .u8 0] 5)) := fun _ => by kernel_rfl
  go_enter Try.func63, Try.ntmps63
  go_wp2_with (go_at_call 77; refine (width32_any _).mono ?_; rintro e w' ⟨rfl, rfl⟩)
  go_rounds 5
  go_ret
  refine ⟨rfl, ?_⟩
  refine congrArg (fun c : List Value => w.alloc (.cells c.toArray 5)) ?_
  simp only [bigL, List.nil_append, List.cons_append, List.map_cons, List.map_nil, bval, u8i]
  repeat (first | (refine congr (congrArg List.cons (val_u8 (by omega))) ?_) | rfl)

set_option maxRecDepth 100000 in
set_option maxHeartbeats 400000 in
theorem big64_any (x : Nat) (hx : x < 18446744073709551616) (w : World) : Calls Try.prog 50 #[.int .u64 x] w fun e w' => e = .returned (.slice (some ⟨w.heap.size, 0, none⟩) 8 8) ∧ w' = w.alloc (.cells ((bigL 8 x).map bval).toArray 5) := by
  have hmk : ∀ w, (Instr.makeSlice 22 (.int .i64 8) (.int .i64 8)).run Try.prog w = .ok (.slice (some ⟨w.heap.size, 0, none⟩) 8 8) (w.alloc (.cells #[.int .u8 0, .int .u8 0, .int .u8 0, .int .u8 0, .int .u8 0, .int .u8 0, .int .u8 0, .int .u8 0] 5)) := fun _ => by kernel_rfl
  go_enter Try.func50, Try.ntmps50
  go_wp2_with (go_at_call 76; refine (width64_any _).mono ?_; rintro e w' ⟨rfl, rfl⟩)
  go_rounds 9
  go_ret
  refine ⟨rfl, ?_⟩
  refine congrArg (fun c : List Value => w.alloc (.cells c.toArray 5)) ?_
  simp only [bigL, List.nil_append, List.cons_append, List.map_cons, List.map_nil, bval, u8i]
  repeat (first | (refine congr (congrArg List.cons (val_u8 (by omega))) ?_) | rfl)

end Go.Proofs.Ythemlaibjchjpaa
/- octet.Small at each instance. -/
namespace Go.Proofs.Ythemlaibjchjpaa
open Go.RowKit

/-- the number of which these are the bytes -/
def smallL (l : List UInt8) : Nat := l.foldl (fun x b => x * 256 + b.toNat) 0
theorem smallL_snoc (l : List UInt8) (b : UInt8) : smallL (l ++ [b]) = smallL l * 256 + b.toNat := by simp [smallL]
theorem smallL_lt : ∀ (n : Nat) (l : List UInt8), l.length = n → smallL l < 256 ^ n := by
  intro n
  induction n with
  | zero => intro l hl; simp [List.eq_nil_of_length_eq_zero hl, smallL]
  | succ n ih =>
    intro l hl
    obtain ⟨m, b, rfl⟩ : ∃ m b, l = m ++ [b] := ⟨l.dropLast, l.getLast (by intro h; simp [h] at hl), (List.dropLast_concat_getLast _).symm⟩
    rw [smallL_snoc]
    have := ih m (by simpa using hl)
    have := b.toNat_lt
    rw [Nat.pow_succ]
    omega
theorem smallL_take {l : List UInt8} {k : Nat} (h : k < l.length) : smallL (l.take (k + 1)) = smallL (l.take k) * 256 + (l[k]).toNat := by
  rw [List.take_succ_eq_append_getElem h, smallL_snoc]
theorem smallL_le {l : List UInt8} {k : Nat} (h : k ≤ l.length) (h7 : k ≤ 7) : smallL (l.take k) ≤ 72057594037927935 := by
  have h1 := smallL_lt k (l.take k) (by simp; omega)
  have h2 : 256 ^ k ≤ 256 ^ 7 := Nat.pow_le_pow_right (by omega) h7
  omega

theorem or_byte (x c : Nat) (hx : x ≤ 72057594037927935) (hc : c < 256) : bits .or .u64 ((x : Int) * 256) (c : Int) = ((x * 256 + c : Nat) : Int) := by
  have e1 : ((x : Int) * 256) = ((x * 256 : Nat) : Int) := by simp
  have e2 : x * 256 + c = x * 256 ||| c := by
    have := Nat.shiftLeft_add_eq_or_of_lt (i := 8) (b := c) (by omega) x
    rwa [Nat.shiftLeft_eq] at this
  rw [e1, bits_or_u64_nat _ _ (by omega) (by omega), e2]

set_option maxRecDepth 100000 in
set_option maxHeartbeats 400000 in
theorem small8_any (a : Option Addr) (c n : Nat) (l : List UInt8) (w : World) (ha : BLies w a l) (hn : l.length = n) (hm : n ≤ maxLen) :
    Calls Try.prog 64 #[.slice a n c] w fun e w' => e = .returned (if n < 1 then .tuple #[.int .u8 0, .int .i64 10] else if 1 < n then .tuple #[.int .u8 0, .int .i64 11] else .tuple #[.int .u8 (smallL l), .int .i64 0]) ∧ w = w' := by
  unfold maxLen at hm
  by_cases h1 : n < 1
  · have e : ∀ x y : Value, (if n < 1 then x else y) = x := fun x y => by rw [if_pos h1]
    rw [e]
    clear e
    go_enter Try.func64, Try.ntmps64
    go_wp2_with (go_at_call 78; refine (width8_any _).mono ?_; rintro e w' ⟨rfl, rfl⟩)
    go_ret2
    exact ⟨rfl, rfl⟩
  by_cases h2 : 1 < n
  · have e : ∀ x y z : Value, (if n < 1 then x else if 1 < n then y else z) = y := fun x y z => by rw [if_neg h1, if_pos h2]
    rw [e]
    clear e
    go_enter Try.func64, Try.ntmps64
    go_wp2_with (go_at_call 78; refine (width8_any _).mono ?_; rintro e w' ⟨rfl, rfl⟩)
    go_ret2
    exact ⟨rfl, rfl⟩
  have e : ∀ x y z : Value, (if n < 1 then x else if 1 < n then y else z) = z := fun x y z => by rw [if_neg h1, if_neg h2]
  rw [e]
  clear e
  obtain rfl : n = 1 := by omega
  clear h1 h2
  have HA : Hid (BLies w a l) := ha
  have HN := Lib.hid hn
  have hm0 : smallL l < 256 := by have := smallL_lt _ l hn; simpa using this
  have HM := Lib.hid hm0
  clear hm0
  clear ha hn hm
  go_enter Try.func64, Try.ntmps64
  go_wp2_with (go_at_call 78; refine (width8_any _).mono ?_; rintro e w' ⟨rfl, rfl⟩)
  go_loop [5, 21] (fun x i => ∃ k : Nat, k ≤ 1 ∧ i = .int .i64 k ∧ x = .int .u64 (smallL (l.take k))) (fun _ i => 1 - (intOf i).toNat)
  case atStart => exact ⟨0, by omega, rfl, rfl⟩
  case round =>
    obtain ⟨k, hk, rfl, rfl⟩ := hrel
    by_cases hlt : k < 1
    · obtain ⟨b, off, rfl, hc⟩ := HA.out k (by rw [HN.out]; exact hlt)
      have hle := smallL_le (l := l) (k := k) (by rw [HN.out]; omega) (by omega)
      have hb := (l[k]'(by rw [HN.out]; exact hlt)).toNat_lt
      go_wp2
      go_round
      case rel => exact ⟨k + 1, by omega, by go_num, by rw [or_byte _ _ hle hb, smallL_take (by rw [HN.out]; exact hlt)]⟩
      case measure => simp [intOf]; omega
    · obtain rfl : k = 1 := by omega
      have hle := HM.out
      have e0 : l.take 1 = l := List.take_of_length_le (by rw [HN.out]; omega)
      rw [e0]
      clear e0
      go_wp2
      go_ret2
      exact ⟨rfl, rfl⟩

set_option maxRecDepth 100000 in
set_option maxHeartbeats 400000 in
theorem small16_any (a : Option Addr) (c n : Nat) (l : List UInt8) (w : World) (ha : BLies w a l) (hn : l.length = n) (hm : n ≤ maxLen) :
    Calls Try.prog 65 #[.slice a n c] w fun e w' => e = .returned (if n < 2 then .tuple #[.int .u16 0, .int .i64 10] else if 2 < n then .tuple #[.int .u16 0, .int .i64 11] else .tuple #[.int .u16 (smallL l), .int .i64 0]) ∧ w = w' := by
  unfold maxLen at hm
  by_cases h1 : n < 2
  · have e : ∀ x y : Value, (if n < 2 then x else y) = x := fun x y => by rw [if_pos h1]
    rw [e]
    clear e
    go_enter Try.func65, Try.ntmps65
    go_wp2_with (go_at_call 75; refine (width16_any _).mono ?_; rintro e w' ⟨rfl, rfl⟩)
    go_ret2
    exact ⟨rfl, rfl⟩
  by_cases h2 : 2 < n
  · have e : ∀ x y z : Value, (if n < 2 then x else if 2 < n then y else z) = y := fun x y z => by rw [if_neg h1, if_pos h2]
    rw [e]
    clear e
    go_enter Try.func65, Try.ntmps65
    go_wp2_with (go_at_call 75; refine (width16_any _).mono ?_; rintro e w' ⟨rfl, rfl⟩)
    go_ret2
    exact ⟨rfl, rfl⟩
  have e : ∀ x y z : Value, (if n < 2 then x else if 2 < n then y else z) = z := fun x y z => by rw [if_neg h1, if_neg h2]
  rw [e]
  clear e
  obtain rfl : n = 2 := by omega
  clear h1 h2
  have HA : Hid (BLies w a l) := ha
  have HN := Lib.hid hn
  have hm0 : smallL l < 65536 := by have := smallL_lt _ l hn; simpa using this
  have HM := Lib.hid hm0
  clear hm0
  clear ha hn hm
  go_enter Try.func65, Try.ntmps65
  go_wp2_with (go_at_call 75; refine (width16_any _).mono ?_; rintro e w' ⟨rfl, rfl⟩)
  go_loop [5, 21] (fun x i => ∃ k : Nat, k ≤ 2 ∧ i = .int .i64 k ∧ x = .int .u64 (smallL (l.take k))) (fun _ i => 2 - (intOf i).toNat)
  case atStart => exact ⟨0, by omega, rfl, rfl⟩
  case round =>
    obtain ⟨k, hk, rfl, rfl⟩ := hrel
    by_cases hlt : k < 2
    · obtain ⟨b, off, rfl, hc⟩ := HA.out k (by rw [HN.out]; exact hlt)
      have hle := smallL_le (l := l) (k := k) (by rw [HN.out]; omega) (by omega)
      have hb := (l[k]'(by rw [HN.out]; exact hlt)).toNat_lt
      go_wp2
      go_round
      case rel => exact ⟨k + 1, by omega, by go_num, by rw [or_byte _ _ hle hb, smallL_take (by rw [HN.out]; exact hlt)]⟩
      case measure => simp [intOf]; omega
    · obtain rfl : k = 2 := by omega
      have hle := HM.out
      have e0 : l.take 2 = l := List.take_of_length_le (by rw [HN.out]; omega)
      rw [e0]
      clear e0
      go_wp2
      go_ret2
      exact ⟨rfl, rfl⟩

set_option maxRecDepth 100000 in
set_option maxHeartbeats 400000 in
theorem small32_any (a : Option Addr) (c n : Nat) (l : List UInt8) (w : World) (ha : BLies w a l) (hn : l.length = n) (hm : n ≤ maxLen) :
    Calls Try.prog 51 #[.slice a n c] w fun e w' => e = .returned (if n < 4 then .tuple #[.int .u32 0, .int .i64 10] else if 4 < n then .tuple #[.int .u32 0, .int .i64 11] else .tuple #[.int .u32 (smallL l), .int .i64 0]) ∧ w = w' := by
  unfold maxLen at hm
  by_cases h1 : n < 4
  · have e : ∀ x y : Value, (if n < 4 then x else y) = x := fun x y => by rw [if_pos h1]
    rw [e]
    clear e
    go_enter Try.func51, Try.ntmps51
    go_wp2_with (go_at_call 77; refine (width32_any _).mono ?_; rintro e w' ⟨rfl, rfl⟩)
    go_ret2
    exact ⟨rfl, rfl⟩
  by_cases h2 : 4 < n
  · have e : ∀ x y z : Value, (if n < 4 then x else if 4 < n then y else z) = y := fun x y z => by rw [if_neg h1, if_pos h2]
    rw [e]
    clear e
    go_enter Try.func51, Try.ntmps51
    go_wp2_with (go_at_call 77; refine (width32_any _).mono ?_; rintro e w' ⟨rfl, rfl⟩)
    go_ret2
    exact ⟨rfl, rfl⟩
  have e : ∀ x y z : Value, (if n < 4 then x else if 4 < n then y else z) = z := fun x y z => by rw [if_neg h1, if_neg h2]
  rw [e]
  clear e
  obtain rfl : n = 4 := by omega
  clear h1 h2
  have HA : Hid (BLies w a l) := ha
  have HN := Lib.hid hn
  have hm0 : smallL l < 4294967296 := by have := smallL_lt _ l hn; simpa using this
  have HM := Lib.hid hm0
  clear hm0
  clear ha hn hm
  go_enter Try.func51, Try.ntmps51
  go_wp2_with (go_at_call 77; refine (width32_any _).mono ?_; rintro e w' ⟨rfl, rfl⟩)
  go_loop [5, 21] (fun x i => ∃ k : Nat, k ≤ 4 ∧ i = .int .i64 k ∧ x = .int .u64 (smallL (l.take k))) (fun _ i => 4 - (intOf i).toNat)
  case atStart => exact ⟨0, by omega, rfl, rfl⟩
  case round =>
    obtain ⟨k, hk, rfl, rfl⟩ := hrel
    by_cases hlt : k < 4
    · obtain ⟨b, off, rfl, hc⟩ := HA.out k (by rw [HN.out]; exact hlt)
      have hle := smallL_le (l := l) (k := k) (by rw [HN.out]; omega) (by omega)
      have hb := (l[k]'(by rw [HN.out]; exact hlt)).toNat_lt
      go_wp2
      go_round
      case rel => exact ⟨k + 1, by omega, by go_num, by rw [or_byte _ _ hle hb, smallL_take (by rw [HN.out]; exact hlt)]⟩
      case measure => simp [intOf]; omega
    · obtain rfl : k = 4 := by omega
      have hle := HM.out
      have e0 : l.take 4 = l := List.take_of_length_le (by rw [HN.out]; omega)
      rw [e0]
      clear e0
      go_wp2
      go_ret2
      exact ⟨rfl, rfl⟩

set_option maxRecDepth 100000 in
set_option maxHeartbeats 400000 in
theorem small64_any (a : Option Addr) (c n : Nat) (l : List UInt8) (w : World) (ha : BLies w a l) (hn : l.length = n) (hm : n ≤ maxLen) :
    Calls Try.prog 66 #[.slice a n c] w fun e w' => e = .returned (if n < 8 then .tuple #[.int .u64 0, .int .i64 10] else if 8 < n then .tuple #[.int .u64 0, .int .i64 11] else .tuple #[.int .u64 (smallL l), .int .i64 0]) ∧ w = w' := by
  unfold maxLen at hm
  by_cases h1 : n < 8
  · have e : ∀ x y : Value, (if n < 8 then x else y) = x := fun x y => by rw [if_pos h1]
    rw [e]
    clear e
    go_enter Try.func66, Try.ntmps66
    go_wp2_with (go_at_call 76; refine (width64_any _).mono ?_; rintro e w' ⟨rfl, rfl⟩)
    go_ret2
    exact ⟨rfl, rfl⟩
  by_cases h2 : 8 < n
  · have e : ∀ x y z : Value, (if n < 8 then x else if 8 < n then y else z) = y := fun x y z => by rw [if_neg h1, if_pos h2]
    rw [e]
    clear e
    go_enter Try.func66, Try.ntmps66
    go_wp2_with (go_at_call 76; refine (width64_any _).mono ?_; rintro e w' ⟨rfl, rfl⟩)
    go_ret2
    exact ⟨rfl, rfl⟩
  have e : ∀ x y z : Value, (if n < 8 then x else if 8 < n then y else z) = z := fun x y z => by rw [if_neg h1, if_neg h2]
  rw [e]
  clear e
  obtain rfl : n = 8 := by omega
  clear h1 h2
  have HA : Hid (BLies w a l) := ha
  have HN := Lib.hid hn
  have hm0 : smallL l < 18446744073709551616 := by have := smallL_lt _ l hn; simpa using this
  have HM := Lib.hid hm0
  clear hm0
  clear ha hn hm
  go_enter Try.func66, Try.ntmps66
  go_wp2_with (go_at_call 76; refine (width64_any _).mono ?_; rintro e w' ⟨rfl, rfl⟩)
  go_loop [5, 21] (fun x i => ∃ k : Nat, k ≤ 8 ∧ i = .int .i64 k ∧ x = .int .u64 (smallL (l.take k))) (fun _ i => 8 - (intOf i).toNat)
  case atStart => exact ⟨0, by omega, rfl, rfl⟩
  case round =>
    obtain ⟨k, hk, rfl, rfl⟩ := hrel
    by_cases hlt : k < 8
    · obtain ⟨b, off, rfl, hc⟩ := HA.out k (by rw [HN.out]; exact hlt)
      have hle := smallL_le (l := l) (k := k) (by rw [HN.out]; omega) (by omega)
      have hb := (l[k]'(by rw [HN.out]; exact hlt)).toNat_lt
      go_wp2
      go_round
      case rel => exact ⟨k + 1, by omega, by go_num, by rw [or_byte _ _ hle hb, smallL_take (by rw [HN.out]; exact hlt)]⟩
      case measure => simp [intOf]; omega
    · obtain rfl : k = 8 := by omega
      have hle := HM.out
      have e0 : l.take 8 = l := List.take_of_length_le (by rw [HN.out]; omega)
      rw [e0]
      clear e0
      go_wp2
      go_ret2
      exact ⟨rfl, rfl⟩

end Go.Proofs.Ythemlaibjchjpaa
