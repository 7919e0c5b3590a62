/- Part 1 of the proof of CtrBackSaid: the helpers and contracts that it uses: Base, Own, Read, AesMath, AesMul, AesInv, AesSub, AesSt, AesRd, RegS, RegT, RegX, Row, Box, Ch, Iter, Same, Lent, Kept, Apart, Lists, Clone, Chunks, Iter2, Big64, Arr, CtrCounter, AesBlk, AesSpread. -/
import Derived.Test.YtblgdfamomlklaaProg
import Derived.WalkKit
import Derived.WalkSpells
import Derived.WalkLawsBesides
import Derived.Deep.QuietTactic
import Derived.BigQuiet
import Derived.Deep.LoopGhost
import Derived.Deep.DeepCutAuto
import Derived.StillTailTactics
import Derived.Deep.DeepMust
import Derived.Lib.Hide
import Derived.Test.YtblgdfamomlklaaRows
import Derived.ProofKit
import Derived.OpenShut
import Derived.ShutString
import Derived.ChangeOld
import Derived.JoinedCond
import Derived.Deep.Slices
import Derived.Deep.RegionHeld3
import Derived.Great.BuildSlice
import Derived.Deep.OwnRows
import Derived.RangeFuncNested
import Derived.RangeFuncBound
import Derived.RangeFuncCalls
import Derived.RangeFuncLeaves
import Derived.Shelf.Abstract
import Derived.Shelf.RegionOpen
import Derived.OwnWalkIn
import Derived.TacticsInMore
import Derived.LoopNIn
import Derived.LoopIn
import Derived.Lib.SliceRun
import Derived.Handy
import Derived.Deep.RegionWith
import Derived.Deep.Upon
/- The words that all walks of this seat share: rows of cells that are read, rows that the call owns, what a call may change. -/
namespace Go.Proofs.Ytblgdfamomlklaa
open Go.RowKit

/-- a byte as a cell -/
def bval (x : UInt8) : Value := .int .u8 (x.toNat : Int)

/-- from the address a on the cells xs lie (nothing is asked of a where there are none) -/
def Lies (w : World) (a : Option Addr) (xs : List Value) : Prop :=
  ∀ (k : Nat) (h : k < xs.length), ∃ b off, a = some ⟨b, off, none⟩ ∧ w.cell? ⟨b, off + k, none⟩ = some xs[k]

/-- from the address a on these bytes lie -/
def BLies (w : World) (a : Option Addr) (l : List UInt8) : Prop :=
  ∀ (k : Nat) (h : k < l.length), ∃ b off, a = some ⟨b, off, none⟩ ∧ w.cell? ⟨b, off + k, none⟩ = some (.int .u8 ((l[k]).toNat : Int))

theorem BLies.heap {w w' : World} {a : Option Addr} {l : List UInt8} (h : BLies w a l) (hk : ∀ b off, a = some ⟨b, off, none⟩ → b < w.heap.size → w'.heap[b]? = w.heap[b]?) : BLies w' a l := by
  intro k hk'
  obtain ⟨b, off, e, hc⟩ := h k hk'
  exact ⟨b, off, e, (World.cell?_of_block (hk b off e (World.block_lt_of_cell? w _ hc))).trans hc⟩
theorem BLies.grown {w w' : World} {a : Option Addr} {l : List UInt8} (h : BLies w a l) (hg : w.grownBy w' none) : BLies w' a l :=
  h.heap fun b _ _ hb => hg.block b hb (by simp)
theorem BLies.grownNe {w w' : World} {a : Option Addr} {l : List UInt8} {g : Nat} (h : BLies w a l) (hg : w.grownBy w' (some g)) (hne : ∀ b off, a = some ⟨b, off, none⟩ → b ≠ g) : BLies w' a l :=
  h.heap fun b off e hb => hg.block b hb (by have := hne b off e; simpa using this)
theorem BLies.drewN {w : World} {a : Option Addr} {l : List UInt8} (h : BLies w a l) (n : Nat) : BLies (w.drewN n) a l :=
  h.heap fun _ _ _ _ => by simp
theorem BLies.nil (w : World) (a : Option Addr) : BLies w a [] := fun k hk => absurd hk (by simp)
theorem BLies.take {w : World} {a : Option Addr} {l : List UInt8} (h : BLies w a l) (n : Nat) : BLies w a (l.take n) := by
  intro k hk
  obtain ⟨b, off, e, hc⟩ := h k (by simp at hk; omega)
  exact ⟨b, off, e, by rw [hc]; simp⟩

/-- a callee that leaves the world alone, as a drawing region asks it -/
theorem quietS {P : Program} {f : FuncId} {args : Array Value} {w : World} {n : Nat} {v : Value} (h : Calls P f args (w.drewN n) fun e w' => e = .returned v ∧ w.drewN n = w') : Calls P f args (w.drewN n) fun e w'' => e = .returned v ∧ ∃ m, w'' = w.drewN m :=
  Calls.quiet_of_same (h.mono fun _ _ ⟨he, hw⟩ => ⟨he, hw.symm⟩)

theorem quietS2 {P : Program} {f : FuncId} {args : Array Value} {w : World} {q n : Nat} {v : Value} (h : Calls P f args (w.drewN (q + n)) fun e w' => e = .returned v ∧ w.drewN (q + n) = w') : Calls P f args (w.drewN (q + n)) fun e w'' => e = .returned v ∧ ∃ m, w'' = w.drewN (q + m) :=
  h.mono fun _ _ ⟨he, hw⟩ => ⟨he, n, hw.symm⟩

/-- what a call may change: of the blocks that were there those in S alone; there may be new ones -/
structure Ch (S : Nat → Prop) (w w' : World) : Prop where
  os : w'.os = w.os
  tape : w'.tape = w.tape
  output : w'.output = w.output
  size : w.heap.size ≤ w'.heap.size
  block : ∀ k, k < w.heap.size → ¬ S k → w'.heap[k]? = w.heap[k]?

theorem Ch.refl (S : Nat → Prop) (w : World) : Ch S w w := ⟨rfl, rfl, rfl, Nat.le_refl _, fun _ _ _ => rfl⟩
theorem Ch.trans {S T : Nat → Prop} {a b c : World} (h : Ch S a b) (k : Ch T b c) (hT : ∀ i, i < a.heap.size → T i → S i) : Ch S a c :=
  ⟨k.os.trans h.os, k.tape.trans h.tape, k.output.trans h.output, Nat.le_trans h.size k.size, fun i hi hs => (k.block i (Nat.lt_of_lt_of_le hi h.size) (fun ht => hs (hT i hi ht))).trans (h.block i hi hs)⟩

end Go.Proofs.Ytblgdfamomlklaa
/- Rows that the call owns, and the laws of append over them: an append of any cells; an append of one value. -/
namespace Go.Proofs.Ytblgdfamomlklaa
open Go.RowKit

/-- what the program's table has of a slice type and its elements -/
structure El (P : Program) (t e : TypeId) (z : Value) (size bytes : Nat) : Prop where
  slice : P.underlying t = some (.slice e)
  info : ∃ i, P.info? e = some i ∧ i.zero = some z ∧ i.size = size ∧ i.bytes = bytes
  zs : z.cells.size = size
  pos : 0 < size

/-- the value '.slice a n c' owns the cells xs: it has no room at all, or it begins at the head of a block from 'base' on -/
def Own (w : World) (base : Nat) (e : TypeId) (size : Nat) (a : Option Addr) (n c : Nat) (xs : List Value) : Prop :=
  xs.length = n * size ∧ ((n = 0 ∧ c = 0) ∨
    ∃ g cur, a = some ⟨g, 0, none⟩ ∧ base ≤ g ∧ w.heap[g]? = some (.cells cur e (0, 0)) ∧ n ≤ c ∧ c ≤ maxLen ∧ cur.size = c * size ∧ cur.toList.take (n * size) = xs)

theorem Own.nil (w : World) (base : Nat) (e : TypeId) (size : Nat) (a : Option Addr) : Own w base e size a 0 0 [] := ⟨by simp, .inl ⟨rfl, rfl⟩⟩

theorem Own.cap {w : World} {base : Nat} {e : TypeId} {size : Nat} {a : Option Addr} {n c : Nat} {xs : List Value} (h : Own w base e size a n c xs) : n ≤ c ∧ c ≤ maxLen := by
  rcases h.2 with ⟨h0, h1⟩ | ⟨g, cur, ha, hb, hh, hn, hm, _⟩
  · subst h0; subst h1; unfold maxLen; omega
  · exact ⟨hn, hm⟩

theorem Own.block {w : World} {base : Nat} {e : TypeId} {size : Nat} {a : Option Addr} {n c : Nat} {xs : List Value} (h : Own w base e size a n c xs) (hc : 0 < c) : ∃ g, a = some ⟨g, 0, none⟩ ∧ base ≤ g ∧ g < w.heap.size := by
  rcases h.2 with ⟨_, h0⟩ | ⟨g, cur, ha, hb, hh, _⟩
  · omega
  · exact ⟨g, ha, hb, (Array.getElem?_eq_some_iff.1 hh).1⟩

/-- what is owned stays owned where its block stands -/
theorem Own.kept' {w w' : World} {base : Nat} {e : TypeId} {size : Nat} {a : Option Addr} {n c : Nat} {xs : List Value} (h : Own w base e size a n c xs) (hk : 0 < c → ∀ g, a = some ⟨g, 0, none⟩ → g < w.heap.size → w'.heap[g]? = w.heap[g]?) : Own w' base e size a n c xs := by
  refine ⟨h.1, ?_⟩
  rcases h.2 with h0 | ⟨g, cur, ha, hb, hh, hn, r⟩
  · exact .inl h0
  · by_cases hc : 0 < c
    · exact .inr ⟨g, cur, ha, hb, (hk hc g ha (Array.getElem?_eq_some_iff.1 hh).1).trans hh, hn, r⟩
    · exact .inl ⟨by omega, by omega⟩
theorem Own.kept {w w' : World} {base : Nat} {e : TypeId} {size : Nat} {a : Option Addr} {n c : Nat} {xs : List Value} (h : Own w base e size a n c xs) (hk : ∀ g, a = some ⟨g, 0, none⟩ → g < w.heap.size → w'.heap[g]? = w.heap[g]?) : Own w' base e size a n c xs :=
  h.kept' fun _ => hk

theorem Own.mono {w : World} {base base' : Nat} {e : TypeId} {size : Nat} {a : Option Addr} {n c : Nat} {xs : List Value} (h : Own w base e size a n c xs) (hb : base' ≤ base) : Own w base' e size a n c xs := by
  refine ⟨h.1, ?_⟩
  rcases h.2 with h0 | ⟨g, cur, ha, hbg, r⟩
  · exact .inl h0
  · exact .inr ⟨g, cur, ha, by omega, r⟩

/-- the cells of what is owned -/
theorem Own.cell {w : World} {base : Nat} {e : TypeId} {size : Nat} {a : Option Addr} {n c : Nat} {xs : List Value} (h : Own w base e size a n c xs) (k : Nat) (hk : k < xs.length) : ∃ g, a = some ⟨g, 0, none⟩ ∧ base ≤ g ∧ g < w.heap.size ∧ w.cell? ⟨g, k, none⟩ = some xs[k] ∧ w.frozen? ⟨g, k, none⟩ = false := by
  rcases h.2 with ⟨h0, _⟩ | ⟨g, cur, ha, hb, hh, hn, hm, hs, ht⟩
  · have := h.1; subst h0; simp at this; subst this; simp at hk
  · refine ⟨g, ha, hb, (Array.getElem?_eq_some_iff.1 hh).1, ?_, ?_⟩
    · have hl := h.1
      have e1 : (cur.toList.take (n * size))[k]? = xs[k]? := by rw [ht]
      rw [List.getElem?_take, if_pos (by omega), List.getElem?_eq_getElem hk] at e1
      simp only [World.cell?, hh]
      simpa using e1
    · simp [World.frozen?, hh]

/-- a store into what is owned -/
theorem Own.set {w : World} {base : Nat} {e : TypeId} {size : Nat} {g n c : Nat} {xs : List Value} (h : Own w base e size (some ⟨g, 0, none⟩) n c xs) (k : Nat) (hk : k < xs.length) (u : Value) : Own (w.setCell ⟨g, k, none⟩ u) base e size (some ⟨g, 0, none⟩) n c (xs.set k u) := by
  refine ⟨by rw [List.length_set]; exact h.1, ?_⟩
  rcases h.2 with ⟨h0, _⟩ | ⟨g', cur, ha, hb, hh, hn, hm, hs, ht⟩
  · have := h.1; subst h0; simp at this; subst this; simp at hk
  · obtain rfl : g = g' := by simpa using ha
    have hl := h.1
    refine .inr ⟨g, cur.setIfInBounds k u, rfl, hb, ?_, hn, hm, by simpa using hs, ?_⟩
    · simp only [World.setCell, Array.getElem?_modify, ↓reduceIte, hh, Option.map_some]
      simp
    · rw [Array.toList_setIfInBounds, List.take_set, ht]

theorem grownBy_setCell (w : World) (g k : Nat) (u : Value) : w.grownBy (w.setCell ⟨g, k, none⟩ u) (some g) :=
  ⟨rfl, rfl, rfl, by simp [World.setCell], fun i _ hr => Below.heap_setCell _ _ _ _ (by simpa using hr)⟩

/-- an array in a block of its own, its cells told -/
theorem own_array (w : World) (e : TypeId) (cs : Array Value) (n : Nat) (hn : cs.size = n) (hm : n ≤ maxLen) : Own (w.alloc (.cells cs e)) w.heap.size e 1 (some ⟨w.heap.size, 0, none⟩) n n cs.toList := by
  subst hn
  exact ⟨by simp, .inr ⟨w.heap.size, _, rfl, Nat.le_refl _, heap_alloc_new w _, Nat.le_refl _, hm, by simp, by rw [Nat.mul_one, List.take_of_length_le (by simp)]⟩⟩
/-- the whole of a block that is owned -/
theorem Own.whole {w : World} {base : Nat} {e : TypeId} {g n : Nat} {xs : List Value} (h : Own w base e 1 (some ⟨g, 0, none⟩) n n xs) (hn : 0 < n) : w.heap[g]? = some (.cells xs.toArray e (0, 0)) := by
  rcases h.2 with ⟨h0, _⟩ | ⟨g', cur, ha, hb, hh, hnn, hm, hs, ht⟩
  · omega
  · injection ha with ha; injection ha with ha
    subst ha
    rw [hh, ← ht, List.take_of_length_le (by simp; omega)]
theorem grownBy_setRow (w : World) (g : Nat) (cs : Array Value) : w.grownBy (w.setRow g cs) (some g) :=
  ⟨rfl, rfl, rfl, by simp, fun k _ hk => setRow_other w g k _ (fun e => hk (by simp [e]))⟩

/-- what an append has done to the world and the address: nothing; written into its own block; a new block -/
def GrewP (w w1 : World) (a : Option Addr) (c : Nat) (a' : Option Addr) (c' : Nat) : Prop :=
  (∃ g, a' = some ⟨g, 0, none⟩ ∧ a = a' ∧ 0 < c ∧ c' = c ∧ w.grownBy w1 (some g)) ∨ (∃ g, a' = some ⟨g, 0, none⟩ ∧ w.heap.size ≤ g ∧ w.grownBy w1 none)
def Grew (w w1 : World) (a : Option Addr) (c : Nat) (a' : Option Addr) (c' : Nat) : Prop := (a' = a ∧ c' = c ∧ w1 = w) ∨ GrewP w w1 a c a' c'
theorem GrewP.grew {w w1 : World} {a : Option Addr} {c : Nat} {a' : Option Addr} {c' : Nat} (h : GrewP w w1 a c a' c') : Grew w w1 a c a' c' := .inr h

theorem grownBy_trans {a b c : World} {row : Option Nat} (h : a.grownBy b row) (k : b.grownBy c row) : a.grownBy c row :=
  ⟨k.os.trans h.os, k.tape.trans h.tape, k.output.trans h.output, Nat.le_trans h.size k.size, fun i hi hr => (k.block i (Nat.lt_of_lt_of_le hi h.size) hr).trans (h.block i hi hr)⟩
theorem grownBy_none {a b : World} {row : Option Nat} (h : a.grownBy b row) (hr : ∀ g, row = some g → a.heap.size ≤ g) : a.grownBy b none :=
  ⟨h.os, h.tape, h.output, h.size, fun i hi _ => h.block i hi (fun e => by have := hr i e.symm; omega)⟩
theorem grownBy_some {a b : World} (h : a.grownBy b none) (row : Option Nat) : a.grownBy b row :=
  ⟨h.os, h.tape, h.output, h.size, fun i hi _ => h.block i hi (by simp)⟩
theorem grownBy_old {a b c : World} {g : Nat} (h : a.grownBy b none) (k : b.grownBy c (some g)) (hg : a.heap.size ≤ g) : a.grownBy c none :=
  grownBy_none (grownBy_trans (grownBy_some h (some g)) k) (by rintro g' ⟨⟩; exact hg)
theorem grownBy_al {a b : World} (h : a.grownBy b none) (o : Obj) : a.grownBy (b.alloc o) none := grownBy_trans h (World.grownBy_alloc b o none)
theorem grownBy_dr {a b : World} (h : a.grownBy b none) (n : Nat) : a.grownBy (b.drewN n) none := ⟨h.os, h.tape, h.output, h.size, h.block⟩
theorem grownBy_drewN (w : World) (n : Nat) (row : Option Nat) : w.grownBy (w.drewN n) row := ⟨rfl, rfl, rfl, Nat.le_refl _, fun _ _ _ => rfl⟩

theorem Grew.size {w w1 : World} {a : Option Addr} {c : Nat} {a' : Option Addr} {c' : Nat} (h : Grew w w1 a c a' c') : w.heap.size ≤ w1.heap.size := by
  rcases h with ⟨_, _, rfl⟩ | ⟨g, _, _, _, _, h⟩ | ⟨g, _, _, h⟩
  · exact Nat.le_refl _
  · exact h.size
  · exact h.size

/-- of what lay before the base nothing has turned -/
theorem Grew.grown {w0 w w1 : World} {base : Nat} {e : TypeId} {size : Nat} {a : Option Addr} {n c : Nat} {xs : List Value} {a' : Option Addr} {c' : Nat} (h : Grew w w1 a c a' c') (ho : Own w base e size a n c xs) (hg : w0.grownBy w none) (hb : w0.heap.size ≤ base) : w0.grownBy w1 none := by
  rcases h with ⟨_, _, rfl⟩ | ⟨g, ha, rfl, hc, _, h⟩ | ⟨g, _, _, h⟩
  · exact hg
  · obtain ⟨g', he, hb', _⟩ := ho.block hc
    rw [ha] at he
    obtain rfl : g = g' := by simpa using he
    exact grownBy_old hg h (by omega)
  · exact grownBy_trans hg h

/-- another row stays -/
theorem Grew.other {w w1 : World} {a : Option Addr} {c : Nat} {a' : Option Addr} {c' : Nat} (h : Grew w w1 a c a' c') (k : Nat) (hk : k < w.heap.size) (hne : ∀ g, 0 < c → a = some ⟨g, 0, none⟩ → k ≠ g) : w1.heap[k]? = w.heap[k]? := by
  rcases h with ⟨_, _, rfl⟩ | ⟨g, ha, rfl, hc, _, h⟩ | ⟨g, _, _, h⟩
  · rfl
  · exact h.block k hk (by have := hne g hc ha; simpa using this)
  · exact h.block k hk (by simp)

section
variable {P : Program}

theorem run_app (w : World) {t ty e : TypeId} {z : Value} {size bytes : Nat} (H : El P t e z size bytes) {base : Nat} {a : Option Addr} {n c : Nat} {xs : List Value} (hown : Own w base e size a n c xs)
    (ad : Addr) (m c2 : Nat) (news : List Value) (hl : news.length = m * size) (hnews : ∀ j u, news[j]? = some u → w.cell? (ad.add j) = some u) (h1 : ∀ u ∈ news, u.oneCell' = true)
    (h63 : n + m ≤ maxLen) (hbytes : (n + m) * bytes ≤ 140737488355328) (hbase : base ≤ w.heap.size) (hnil : a = none → c = 0 → n = 0 → True) (hm : 0 < m) :
    ∃ g c' w1, (Builtin.append_ #[t, t] ty #[.slice a n c, .slice (some ad) m c2]).run P w = .ok (.slice (some ⟨g, 0, none⟩) (n + m) c') w1 ∧ Own w1 base e size (some ⟨g, 0, none⟩) (n + m) c' (xs ++ news) ∧ GrewP w w1 a c (some ⟨g, 0, none⟩) c' := by
  obtain ⟨ht, ⟨i, hi, hz, rfl, rfl⟩, hzs, hsz⟩ := H
  have hsmall : n + m ≤ 9223372036854775807 := by simp only [maxLen] at h63; omega
  have hlen : (xs ++ news).length = (n + m) * i.size := by rw [List.length_append, hown.1, hl, Nat.add_mul]
  have grown : ∀ (old : Nat), old < n + m →
      Own (w.drew.alloc (.cells (xs.toArray ++ news.toArray ++ Builtin.zeroCells z.cells (grownCap w (n + m) old e - (n + m))) e)) base e i.size
        (some ⟨w.heap.size, 0, none⟩) (n + m) (grownCap w (n + m) old e) (xs ++ news) ∧
      w.grownBy (w.drew.alloc (.cells (xs.toArray ++ news.toArray ++ Builtin.zeroCells z.cells (grownCap w (n + m) old e - (n + m))) e)) none := by
    intro old ho
    have hge := grownCap_ge w (n + m) old e
    have hcm : grownCap w (n + m) old e ≤ maxLen := grownCap_le_maxLen w (n + m) old e h63
    refine ⟨⟨hlen, .inr ⟨w.heap.size, _, rfl, hbase, heap_alloc_new w.drew _, hge, hcm, ?_, ?_⟩⟩, ⟨rfl, rfl, rfl, by simp, fun k hk _ => Below.heap_alloc w.drew _ k hk⟩⟩
    · simp only [Array.size_append, List.size_toArray, size_zeroCells, hzs, hown.1, hl, ← Nat.add_mul]
      congr 1
      omega
    · simp only [Array.toList_append, List.append_assoc]
      rw [← List.append_assoc, ← hlen]
      exact List.take_left
  rcases hown.2 with ⟨rfl, rfl⟩ | ⟨g, cur, rfl, hbg, hg, hnc, hcm, hcs, htake⟩
  · have hx : xs = [] := List.eq_nil_of_length_eq_zero (by simpa using hown.1)
    subst hx
    have hgr := grown 0 (by omega)
    cases a with
    | none =>
      have hr := run_append_nil (P := P) w t ty e i z ht hi hz ad m c2 news hl hnews hm (by omega) (by have hb := hbytes; simp only [Nat.zero_add] at hb; omega)
      simp only [Nat.zero_add, List.nil_append, Array.empty_append] at hgr ⊢
      exact ⟨_, _, _, hr, hgr.1, .inr ⟨_, rfl, Nat.le_refl _, hgr.2⟩⟩
    | some b =>
      have hr := run_append_grow (P := P) w t ty e i z ht hi hz b 0 0 [] (by simp) (by simp) ad m c2 news hl hnews (by omega) (by omega) (growslice_fits (by omega) hbytes)
      exact ⟨_, _, _, hr, hgr.1, .inr ⟨_, rfl, Nat.le_refl _, hgr.2⟩⟩
  · by_cases hroom : n + m ≤ c
    · have hfit : n * i.size + news.length ≤ cur.size := by rw [hl, hcs, ← Nat.add_mul]; exact Nat.mul_le_mul_right _ hroom
      have hr := run_append_room (P := P) w t ty e i ht hi g n c cur hg ad m c2 news hl hnews h1 hroom hfit
      refine ⟨_, _, _, hr, ⟨hlen, .inr ⟨g, _, rfl, hbg, setRow_heap w g cur _ e _ hg, hroom, hcm, ?_, ?_⟩⟩, .inl ⟨g, rfl, rfl, by omega, rfl, ⟨rfl, rfl, rfl, by simp, fun k _ hk => setRow_other w g k _ (fun e => hk (by simp [e]))⟩⟩⟩
      · simp only [List.size_toArray, List.length_append, List.length_take, List.length_drop, Array.length_toList]
        omega
      · rw [htake, ← hlen]
        exact List.take_left
    · have holds : ∀ j u, xs[j]? = some u → w.cell? ((⟨g, 0, none⟩ : Addr).add j) = some u := by
        intro j u hu
        have hadd : (⟨g, 0, none⟩ : Addr).add j = ⟨g, j, none⟩ := by unfold Addr.add; split <;> simp_all
        obtain ⟨hj, rfl⟩ := List.getElem?_eq_some_iff.1 hu
        obtain ⟨g', e1, _, _, hc, _⟩ := hown.cell j hj
        obtain rfl : g = g' := by simpa using e1
        rw [hadd]; exact hc
      have hr := run_append_grow (P := P) w t ty e i z ht hi hz ⟨g, 0, none⟩ n c xs hown.1 holds ad m c2 news hl hnews (by omega) (by omega) (growslice_fits (by omega) hbytes)
      have hgr := grown c (by omega)
      exact ⟨_, _, _, hr, hgr.1, .inr ⟨_, rfl, Nat.le_refl _, hgr.2⟩⟩

/-- append of cells that lie somewhere (there is at least one) -/
theorem wpList_app {w : World} {ops : Array Oper} {rest : List Oper} {o : Oper} {act : Act} {Q : Exit → Act → World → Prop} {t e : TypeId} {z : Value} {size bytes : Nat} (H : El P t e z size bytes)
    (hgd : o.guard = none) (s x : Operand) (ho : o.op = .call { callee := .builtin .append, args := #[s, x], argTypes := #[t, t] })
    {base : Nat} {a : Option Addr} {n c : Nat} {xs : List Value} (hs : act.eval s = .slice a n c) (hown : Own w base e size a n c xs)
    (ad : Addr) (m c2 : Nat) (news : List Value) (hx : act.eval x = .slice (some ad) m c2) (hl : news.length = m * size) (hnews : ∀ j u, news[j]? = some u → w.cell? (ad.add j) = some u) (h1 : ∀ u ∈ news, u.oneCell' = true)
    (h63 : n + m ≤ maxLen) (hbytes : (n + m) * bytes ≤ 140737488355328) (hbase : base ≤ w.heap.size) (hm : 0 < m)
    (h : ∀ g c' w1, Own w1 base e size (some ⟨g, 0, none⟩) (n + m) c' (xs ++ news) → GrewP w w1 a c (some ⟨g, 0, none⟩) c' → wpList P ops Q rest (act.put o.dst (.slice (some ⟨g, 0, none⟩) (n + m) c')) w1) : wpList P ops Q (o :: rest) act w := by
  refine wpList_plain hgd fun K hK => ?_
  obtain ⟨g, c', w1, hr, h2, h3⟩ := run_app (P := P) (ty := o.type) w H hown ad m c2 news hl hnews h1 h63 hbytes hbase (fun _ _ _ => trivial) hm
  unfold Oper.wp execOp
  simp only [ho, resolve, invoke, builtin, Sem.run_bind, Sem.run_pure, Result.andThen_ok, List.map_toArray, List.map_cons, List.map_nil, hs, hx, hr]
  exact hK _ _ (h g c' w1 h2 h3)

/-- append of one value of one cell: the translation has just laid it in a block of its own -/
theorem wpList_push {w : World} {ops : Array Oper} {rest : List Oper} {o : Oper} {act : Act} {Q : Exit → Act → World → Prop} {t e : TypeId} {z : Value} {bytes : Nat} (H : El P t e z 1 bytes)
    (hgd : o.guard = none) (s x : Operand) (ho : o.op = .call { callee := .builtin .append, args := #[s, x], argTypes := #[t, t] })
    {base : Nat} {a : Option Addr} {n c : Nat} {xs : List Value} (hs : act.eval s = .slice a n c) (hown : Own w base e 1 a n c xs)
    (u : Value) (hx : act.eval x = .slice (some ⟨w.heap.size, 0, none⟩) 1 1) (h1 : u.oneCell' = true)
    (h63 : n + 1 ≤ maxLen) (hbytes : (n + 1) * bytes ≤ 140737488355328) (hbase : base ≤ w.heap.size)
    (h : ∀ g c' w1, Own w1 base e 1 (some ⟨g, 0, none⟩) (n + 1) c' (xs ++ [u]) → GrewP w w1 a c (some ⟨g, 0, none⟩) c' → wpList P ops Q rest (act.put o.dst (.slice (some ⟨g, 0, none⟩) (n + 1) c')) w1) : wpList P ops Q (o :: rest) act (w.alloc (.cells #[u] e)) := by
  have hga : w.grownBy (w.alloc (.cells #[u] e)) none := World.grownBy_alloc w _ none
  refine wpList_app H hgd s x ho hs (hown.kept fun g _ hg => hga.block g hg (by simp)) ⟨w.heap.size, 0, none⟩ 1 1 [u] hx (by simp) (cell_one_new _ _ _) (by simpa using h1) h63 hbytes (by have := hga.size; omega) (by omega) ?_
  intro g c' w1 h2 h3
  refine h g c' w1 h2 ?_
  rcases h3 with ⟨g', e1, e2, hc, hcc, hg⟩ | ⟨g', e1, hs', hg⟩
  · exact .inl ⟨g', e1, e2, hc, hcc, grownBy_trans (grownBy_some hga _) hg⟩
  · exact .inr ⟨g', e1, by have := hga.size; omega, grownBy_trans hga hg⟩
end

end Go.Proofs.Ytblgdfamomlklaa
/- What came in, as the walks want it: bytes that lie in memory; and what the bound on bulk says of a length. -/
namespace Go.Proofs.Ytblgdfamomlklaa
open Go.ChangeShapes Go.WideShapes Go.ChangeAt Go.RowKit

theorem ownKnobT : ownKnob Try.prog.godebug = none := by kernel_rfl
theorem laidOutT : laidOutB Try.prog = true := by kernel_rfl

theorem bulk_pos {H : Type} (d : DataW H) : 1 ≤ Rows.uptoBulk d := by
  cases d with
  | lit l => cases l <;> simp [Rows.uptoBulk]
  | nil => simp [Rows.uptoBulk]
  | ptr d => simp [Rows.uptoBulk]
  | slice elems spare => simp [Rows.uptoBulk]
  | agg parts => simp [Rows.uptoBulk]
  | iface t d => simp [Rows.uptoBulk]
  | map entries => simp [Rows.uptoBulk]
  | held h => simp [Rows.uptoBulk]
theorem bulk_length {H : Type} (l : List (DataW H)) : l.length ≤ Rows.uptoBulkAll l := by
  induction l with
  | nil => simp [Rows.uptoBulkAll]
  | cons x r ih => have := bulk_pos x; simp only [Rows.uptoBulkAll, List.length_cons]; omega
theorem bulk_small {H : Type} {l : List (DataW H)} (hk : Rows.uptoSmall H l = true) : Rows.uptoBulkAll l ≤ 1048576 := of_decide_eq_true hk
theorem bulk_slice {H : Type} (elems spare : List (DataW H)) : Rows.uptoBulkAll elems + 1 ≤ Rows.uptoBulk (.slice elems spare) := by
  simp only [Rows.uptoBulk]; omega
theorem bulk_app {H : Type} (l r : List (DataW H)) : Rows.uptoBulkAll (l ++ r) = Rows.uptoBulkAll l + Rows.uptoBulkAll r := by
  induction l with
  | nil => simp [Rows.uptoBulkAll]
  | cons x l ih => simp only [List.cons_append, Rows.uptoBulkAll, ih]; omega

theorem u8_of_wf {n : Int} (h : (Lit.int .u8 n).wf = true) : ((UInt8.ofNat n.toNat).toNat : Int) = n := by
  have h' : 0 ≤ n ∧ n ≤ 255 := by simpa [Lit.wf, IntKind.min, IntKind.max, IntKind.signed, IntKind.bits] using h
  rw [UInt8.toNat_ofNat']
  omega

/-- a slice of bytes that came in -/
theorem rd_bytes {H : Type} {enc : TypeId × Value → H} {W : World} {base : Nat} {spare : Nat → Bool} {held : Bool} {fuel : Nat} {a : Option Addr} {len cap : Nat} {d : DataW H} {p : List MemPlace}
    (h : DataW.trod enc Try.prog W base spare held fuel 34 [.slice a len cap] = some (d, p)) : ∃ l : List UInt8, l.length = len ∧ BLies W a l ∧ len + 1 ≤ Rows.uptoBulk d ∧ len ≤ cap ∧ cap ≤ maxLen := by
  rcases open_ints Try.underlying34 Try.underlying5 (by kernel_rfl) h with ⟨hcs, hx⟩ | ⟨x, len', cap', zs, hcs, _, hl, hm, hz, hx, hcell, hwz⟩
  · simp at hcs
    obtain ⟨rfl, rfl, rfl⟩ := hcs
    injection hx with hx _
    subst hx
    exact ⟨[], rfl, BLies.nil _ _, by simp [Rows.uptoBulk], Nat.le_refl _, by unfold maxLen; omega⟩
  · simp at hcs
    obtain ⟨rfl, rfl, rfl⟩ := hcs
    injection hx with hx _
    subst hx
    have hzl : len ≤ zs.length := by rw [hz]; split <;> omega
    refine ⟨(zs.take len).map fun z => UInt8.ofNat z.toNat, by simp; omega, ?_, ?_, hl, hm⟩
    · intro k hk
      have hk' : k < zs.length := by simp at hk; omega
      obtain ⟨b, off, rfl, hc⟩ := ints_at hcell (by omega)
      refine ⟨b, off, rfl, ?_⟩
      rw [hc k hk']
      have e : zs.getD k 0 = zs[k] := by simp [hk']
      rw [e]
      simp only [List.getElem_map, List.getElem_take]
      rw [u8_of_wf (hwz _ (List.getElem_mem _))]
    · have h1 := bulk_slice (H := H) (lits .u8 (zs.take len)) (lits .u8 (zs.drop len))
      have h2 := bulk_length (H := H) (lits .u8 (zs.take len))
      have h3 : (lits (H := H) .u8 (zs.take len)).length = len := by simp [lits]; omega
      omega

theorem u64_of_wf {n : Int} (h : (Lit.int .u64 n).wf = true) : ∃ m : Nat, n = m ∧ m < 18446744073709551616 := by
  have h' : 0 ≤ n ∧ n ≤ 18446744073709551615 := by simpa [Lit.wf, IntKind.min, IntKind.max, IntKind.signed, IntKind.bits] using h
  exact ⟨n.toNat, by omega, by omega⟩
theorem i64_of_wf {n : Int} (h : (Lit.int .i64 n).wf = true) : -9223372036854775808 ≤ n ∧ n ≤ 9223372036854775807 := by
  simpa [Lit.wf, IntKind.min, IntKind.max, IntKind.signed, IntKind.bits] using h
theorem byte_of_wf {n : Int} (h : (Lit.int .u8 n).wf = true) : ∃ m : UInt8, n = (m.toNat : Int) := ⟨_, (u8_of_wf h).symm⟩

theorem grown_all {w w' : World} (h : w.grownBy w' none) : Below w.heap.size w w' := ⟨h.os, h.tape, h.output, h.size, fun k hk => h.block k hk (by simp)⟩

end Go.Proofs.Ytblgdfamomlklaa
/- The cipher's field, in plain Lean: no program in sight. -/
namespace Go.Proofs.Ytblgdfamomlklaa

/-- times the generator -/
def ax (a : Nat) : Nat := if a < 128 then a * 2 else (a * 2 - 256) ^^^ 27
/-- so many rounds of the product -/
def amL : Nat → Nat → Nat → Nat → Nat
  | 0, p, _, _ => p
  | n + 1, p, a, b => amL n (if b % 2 = 1 then p ^^^ a else p) (ax a) (b / 2)
def amN (a b : Nat) : Nat := amL 8 0 a b

theorem ax_lt {a : Nat} (h : a < 256) : ax a < 256 := by
  unfold ax
  split
  · omega
  · exact Nat.xor_lt_two_pow (n := 8) (by omega) (by omega)
theorem amL_zero : ∀ (n p a : Nat), amL n p a 0 = p := by
  intro n
  induction n with
  | zero => intro p a; rfl
  | succ n ih => intro p a; simp only [amL]; rw [ih]; simp
theorem amL_lt : ∀ (n p a b : Nat), p < 256 → a < 256 → amL n p a b < 256 := by
  intro n
  induction n with
  | zero => intro p a b hp _; exact hp
  | succ n ih =>
    intro p a b hp ha
    refine ih _ _ _ ?_ (ax_lt ha)
    split
    · exact Nat.xor_lt_two_pow (n := 8) hp ha
    · exact hp
theorem amN_lt {a b : Nat} (ha : a < 256) : amN a b < 256 := amL_lt 8 0 a b (by omega) ha

/-- the product -/
def am (a b : UInt8) : UInt8 := UInt8.ofNat (amN a.toNat b.toNat)
theorem am_toNat (a b : UInt8) : (am a b).toNat = amN a.toNat b.toNat := by
  unfold am
  rw [UInt8.toNat_ofNat', Nat.mod_eq_of_lt (by have := amN_lt (a := a.toNat) (b := b.toNat) a.toNat_lt; omega)]

/-- to the power 254 -/
def ainvL : Nat → UInt8 → UInt8 → UInt8
  | 0, p, _ => p
  | n + 1, p, a => ainvL n (am p (am a a)) (am a a)
def ainv (a : UInt8) : UInt8 := ainvL 7 1 a
theorem ainv_zero : ainv 0 = 0 := by decide +kernel
theorem am_zero_right (a : UInt8) : am a 0 = 0 := by
  unfold am amN
  rw [show (0 : UInt8).toNat = 0 from rfl, amL_zero]
  rfl
end Go.Proofs.Ytblgdfamomlklaa
/- aes.Product, and the document's. -/
namespace Go.Proofs.Ytblgdfamomlklaa
open Go.RowKit

theorem and_one (y : Nat) (hy : y < 256) : bits .and .u8 (y : Int) 1 = ((y % 2 : Nat) : Int) := by
  have := u8_and_nat y 1 hy (by omega)
  rw [Nat.and_one_is_mod] at this
  exact this
theorem and_128 (x : Nat) (hx : x < 256) : bits .and .u8 (x : Int) 128 = if x < 128 then 0 else 128 := by
  have := u8_and_nat x 128 hx (by omega)
  have e : ∀ x : Fin 256, (x.val &&& 128 : Nat) = if x.val < 128 then 0 else 128 := by decide +kernel
  have e' := e ⟨x, hx⟩
  simp only at e'
  rw [e'] at this
  rw [show (128 : Int) = ((128 : Nat) : Int) from rfl, this]
  split <;> rfl
theorem xor_val (a b : Nat) (ha : a < 256) (hb : b < 256) : bits .xor .u8 (a : Int) (b : Int) = ((a ^^^ b : Nat) : Int) := u8_xor_nat a b ha hb

theorem xor_27 (x : Nat) (h : bits .xor .u8 ((x * 2 % 256 : Nat) : Int) ((27 : Nat) : Int) = ((x * 2 % 256 ^^^ 27 : Nat) : Int)) (hx : x * 2 % 256 = x * 2 - 256) : bits .xor .u8 ((x : Int) * 2 % 256) 27 = ((x * 2 - 256 ^^^ 27 : Nat) : Int) := by
  rw [← hx, ← h]
  congr 1

set_option maxHeartbeats 400000 in
theorem doubleN_any (x : Nat) (w : World) (hx : x < 256) :
    Calls Try.prog 52 #[.int .u8 x] w fun e w' => e = .returned (.int .u8 (ax x : Nat)) ∧ w = w' := by
  have b2 := and_128 x hx
  have x2 := xor_val (x * 2 % 256) 27 (by omega) (by omega)
  have X2 := Lib.hid x2
  clear x2
  by_cases e2 : x < 128
  all_goals
    first | rw [if_pos e2] at b2 | rw [if_neg e2] at b2
    go_enter Try.func52, Try.ntmps52
    go_wp2
    go_ret
    refine ⟨?_, rfl⟩
    refine congrArg Ending.returned ?_
    unfold ax
    first | (rw [if_pos e2]; go_num) | (rw [if_neg e2]; exact congrArg (Value.int .u8) (xor_27 x X2.out (by omega)))

set_option maxHeartbeats 400000 in
theorem prodN_any (a b : Nat) (w : World) (ha : a < 256) (hb : b < 256) :
    Calls Try.prog 75 #[.int .u8 a, .int .u8 b] w fun e w' => e = .returned (.int .u8 (amN a b : Nat)) ∧ w = w' := by
  go_enter Try.func75, Try.ntmps75
  go_wp2
  go_loop [0, 1, 5] (fun va vb vp => ∃ k x y p : Nat, k ≤ 8 ∧ x < 256 ∧ y < 2 ^ k ∧ y < 256 ∧ p < 256 ∧ va = .int .u8 x ∧ vb = .int .u8 y ∧ vp = .int .u8 p ∧ amL k p x y = amN a b) (fun _ vb _ => (intOf vb).toNat)
  case atStart => exact ⟨8, a, b, 0, by omega, ha, hb, hb, by omega, rfl, rfl, rfl, rfl⟩
  case round =>
    obtain ⟨k, x, y, p, hk, hx, hyk, hy, hp, rfl, rfl, rfl, hm⟩ := hrel
    have HM := Lib.hid hm
    have HY := Lib.hid hyk
    clear hm hyk
    by_cases hy0 : y = 0
    · subst hy0
      go_wp2
      go_ret
      have := HM.out
      rw [amL_zero] at this
      exact ⟨by rw [← this]; rfl, rfl⟩
    · have hne : ((y : Int) != 0) = true := by rw [bne_iff_ne]; omega
      obtain ⟨k, rfl⟩ : ∃ k', k = k' + 1 := by
        cases k with
        | zero => have := HY.out; simp at this; exact absurd this hy0
        | succ k => exact ⟨k, rfl⟩
      have hstep := HM.out
      have hyk := HY.out
      rw [Nat.pow_succ] at hyk
      have HYK := Lib.hid hyk
      simp only [amL] at hstep
      have HS := Lib.hid hstep
      clear hstep hyk
      have b1 := and_one y hy
      have x1 := xor_val p x hp hx
      have X1 := Lib.hid x1
      clear x1
      have hxt := ax_lt hx
      have l1 : p ^^^ x < 256 := Nat.xor_lt_two_pow (n := 8) hp hx
      rcases Nat.mod_two_eq_zero_or_one y with e1 | e1
      all_goals
        rw [e1] at b1
        have HE1 := Lib.hid e1
        clear e1
        go_wp2_with (go_at_call 52; refine (doubleN_any x _ hx).mono ?_; rintro e w' ⟨rfl, rfl⟩)
        go_round
        case measure => simp [intOf]; omega
        case rel =>
          refine ⟨k, ax x, y / 2, (if y % 2 = 1 then p ^^^ x else p), by omega, hxt, by have := HYK.out; omega, by omega, by split <;> assumption, rfl, rfl, ?_, HS.out⟩
          rw [HE1.out]
          first | rfl | exact congrArg (Value.int .u8) X1.out

set_option maxHeartbeats 400000 in
theorem refProdN_any (a b : Nat) (w : World) (ha : a < 256) (hb : b < 256) :
    Calls Try.prog 73 #[.int .u8 a, .int .u8 b] w fun e w' => e = .returned (.int .u8 (amN a b : Nat)) ∧ w = w' := by
  go_enter Try.func73, Try.ntmps73
  go_wp2
  go_loop [0, 1, 5, 6] (fun va vb vp vi => ∃ k x y p : Nat, k ≤ 8 ∧ x < 256 ∧ y < 256 ∧ p < 256 ∧ va = .int .u8 x ∧ vb = .int .u8 y ∧ vp = .int .u8 p ∧ vi = .int .i64 k ∧ amL (8 - k) p x y = amN a b) (fun _ _ _ vi => 8 - (intOf vi).toNat)
  case atStart => exact ⟨0, a, b, 0, by omega, ha, hb, by omega, rfl, rfl, rfl, rfl, rfl⟩
  case round =>
    obtain ⟨k, x, y, p, hk, hx, hy, hp, rfl, rfl, rfl, rfl, hm⟩ := hrel
    have HM := Lib.hid hm
    clear hm
    by_cases hk8 : k = 8
    · subst hk8
      go_wp2
      go_ret
      have := HM.out
      simp only [Nat.sub_self, amL] at this
      exact ⟨by rw [← this]; rfl, rfl⟩
    · have hstep := HM.out
      rw [show 8 - k = (8 - (k + 1)) + 1 from by omega] at hstep
      simp only [amL] at hstep
      have HS := Lib.hid hstep
      clear hstep
      have x1 := xor_val p x hp hx
      have x2 := xor_val (x * 2 % 256) 27 (by omega) (by omega)
      have X1 := Lib.hid x1
      have X2 := Lib.hid x2
      clear x1 x2
      have hxt := ax_lt hx
      have l1 : p ^^^ x < 256 := Nat.xor_lt_two_pow (n := 8) hp hx
      rcases Nat.mod_two_eq_zero_or_one y with e1 | e1
      all_goals by_cases e2 : x < 128
      all_goals
        have HE1 := Lib.hid e1
        have d1 : ((y : Int) % 2 == 1) = decide (y % 2 = 1) := by rw [Bool.eq_iff_iff]; simp; omega
        have d2 : decide ((128 : Int) ≤ (x : Int)) = decide (128 ≤ x) := by rw [decide_eq_decide]; omega
        first | rw [decide_eq_false (by omega : ¬ y % 2 = 1)] at d1 | rw [decide_eq_true (by omega : y % 2 = 1)] at d1
        first | rw [decide_eq_false (by omega : ¬ 128 ≤ x)] at d2 | rw [decide_eq_true (by omega : 128 ≤ x)] at d2
        clear e1
        go_wp2
        go_round
        case measure => simp [intOf]; omega
        case rel =>
          refine ⟨k + 1, ax x, y / 2, (if y % 2 = 1 then p ^^^ x else p), by omega, hxt, by omega, by split <;> assumption, ?_, rfl, ?_, by go_num, HS.out⟩
          · unfold ax
            first | (rw [if_pos e2]; go_num) | (rw [if_neg e2]; exact congrArg (Value.int .u8) (xor_27 x X2.out (by omega)))
          · rw [HE1.out]
            first | rfl | exact congrArg (Value.int .u8) X1.out

end Go.Proofs.Ytblgdfamomlklaa
/- aes: Inverse, turn, Sub, Unsub; the document's. -/
namespace Go.Proofs.Ytblgdfamomlklaa
open Go.RowKit

theorem prod_i (x y : Int) (a b : UInt8) (w : World) (hx : (a.toNat : Int) = x) (hy : (b.toNat : Int) = y) :
    Calls Try.prog 75 #[.int .u8 x, .int .u8 y] w fun e w' => e = .returned (.int .u8 ((am a b).toNat : Nat)) ∧ w = w' := by
  subst hx; subst hy
  rw [am_toNat]
  exact prodN_any _ _ _ a.toNat_lt b.toNat_lt
theorem refProd_i (x y : Int) (a b : UInt8) (w : World) (hx : (a.toNat : Int) = x) (hy : (b.toNat : Int) = y) :
    Calls Try.prog 73 #[.int .u8 x, .int .u8 y] w fun e w' => e = .returned (.int .u8 ((am a b).toNat : Nat)) ∧ w = w' := by
  subst hx; subst hy
  rw [am_toNat]
  exact refProdN_any _ _ _ a.toNat_lt b.toNat_lt
theorem xor_u8 (a b : UInt8) : bits .xor .u8 (a.toNat : Int) (b.toNat : Int) = ((a ^^^ b).toNat : Int) := by
  rw [xor_val _ _ a.toNat_lt b.toNat_lt, UInt8.toNat_xor]
theorem u8_beq (a b : UInt8) : ((a.toNat : Int) == (b.toNat : Int)) = decide (a = b) := by
  rw [Bool.eq_iff_iff, beq_iff_eq, decide_eq_true_iff]
  constructor
  · intro h; exact UInt8.toNat_inj.1 (by omega)
  · rintro rfl; rfl
theorem u8_bne (a b : UInt8) : ((a.toNat : Int) != (b.toNat : Int)) = !decide (a = b) := by
  rw [← u8_beq]; rfl

set_option maxHeartbeats 400000 in
theorem inverse_i (x : Int) (a : UInt8) (w : World) (hx : (a.toNat : Int) = x) :
    Calls Try.prog 69 #[.int .u8 x] w fun e w' => e = .returned (.int .u8 ((ainv a).toNat : Nat)) ∧ w = w' := by
  subst hx
  go_enter Try.func69, Try.ntmps69
  go_wp2
  go_loop [0, 3, 4] (fun va vp vi => ∃ (k : Nat) (x p : UInt8), k ≤ 7 ∧ va = .int .u8 (x.toNat : Int) ∧ vp = .int .u8 (p.toNat : Int) ∧ vi = .int .i64 k ∧ ainvL (7 - k) p x = ainv a) (fun _ _ vi => 7 - (intOf vi).toNat)
  case atStart => exact ⟨0, a, 1, by omega, rfl, rfl, rfl, rfl⟩
  case round =>
    obtain ⟨k, x, p, hk, rfl, rfl, rfl, hm⟩ := hrel
    have HM := Lib.hid hm
    clear hm
    by_cases hk8 : k < 7
    · go_wp2_with fail
      refine (prod_i _ _ x x _ rfl rfl).mono ?_
      rintro e w' ⟨rfl, rfl⟩
      go_wp2_with fail
      refine (prod_i _ _ p (am x x) _ rfl rfl).mono ?_
      rintro e w' ⟨rfl, rfl⟩
      go_wp2_with fail
      go_round
      case rel => exact ⟨k + 1, am x x, am p (am x x), by omega, rfl, rfl, by go_num, by have := HM.out; rw [show 7 - k = (7 - (k + 1)) + 1 from by omega] at this; exact this⟩
      case measure => simp [intOf]; omega
    · obtain rfl : k = 7 := by omega
      have hp : p = ainv a := HM.out
      subst hp
      go_wp2_with fail
      go_ret
      exact ⟨rfl, rfl⟩

set_option maxHeartbeats 400000 in
theorem refInverse_i (x : Int) (a : UInt8) (w : World) (hx : (a.toNat : Int) = x) :
    Calls Try.prog 76 #[.int .u8 x] w fun e w' => e = .returned (.int .u8 ((ainv a).toNat : Nat)) ∧ w = w' := by
  subst hx
  go_enter Try.func76, Try.ntmps76
  go_wp2
  go_loop [0, 3, 4] (fun va vp vi => ∃ (k : Nat) (x p : UInt8), k ≤ 7 ∧ va = .int .u8 (x.toNat : Int) ∧ vp = .int .u8 (p.toNat : Int) ∧ vi = .int .i64 k ∧ ainvL (7 - k) p x = ainv a) (fun _ _ vi => 7 - (intOf vi).toNat)
  case atStart => exact ⟨0, a, 1, by omega, rfl, rfl, rfl, rfl⟩
  case round =>
    obtain ⟨k, x, p, hk, rfl, rfl, rfl, hm⟩ := hrel
    have HM := Lib.hid hm
    clear hm
    by_cases hk8 : k < 7
    · go_wp2_with fail
      refine (refProd_i _ _ x x _ rfl rfl).mono ?_
      rintro e w' ⟨rfl, rfl⟩
      go_wp2_with fail
      refine (refProd_i _ _ p (am x x) _ rfl rfl).mono ?_
      rintro e w' ⟨rfl, rfl⟩
      go_wp2_with fail
      go_round
      case rel => exact ⟨k + 1, am x x, am p (am x x), by omega, rfl, rfl, by go_num, by have := HM.out; rw [show 7 - k = (7 - (k + 1)) + 1 from by omega] at this; exact this⟩
      case measure => simp [intOf]; omega
    · obtain rfl : k = 7 := by omega
      have hp : p = ainv a := HM.out
      subst hp
      go_wp2_with fail
      go_ret
      exact ⟨rfl, rfl⟩

/-- the bits of a byte turned to the left -/
def rotN (k x : Nat) : Nat := (x * 2 ^ k % 256) ||| (x / 2 ^ (8 - k))
theorem rotN_lt {k x : Nat} (hx : x < 256) (hk : k ≤ 8) : rotN k x < 256 := by
  unfold rotN
  refine Nat.or_lt_two_pow (n := 8) (by omega) ?_
  have := Nat.div_le_self x (2 ^ (8 - k))
  omega
set_option maxHeartbeats 400000 in
theorem turn_any (x k : Nat) (hx : x < 256) (hk : k = 1 ∨ k = 2 ∨ k = 3 ∨ k = 4 ∨ k = 6) (w : World) :
    Calls Try.prog 70 #[.int .u8 x, .int .u64 k] w fun e w' => e = .returned (.int .u8 (rotN k x : Nat)) ∧ w = w' := by
  have h1 := u8_or_nat (x * 2 ^ k % 256) (x / 2 ^ (8 - k)) (by omega) (by have := Nat.div_le_self x (2 ^ (8 - k)); omega)
  have H1 := Lib.hid h1
  clear h1
  rcases hk with rfl | rfl | rfl | rfl | rfl
  all_goals
    go_enter Try.func70, Try.ntmps70
    go_wp2
    go_ret
    refine ⟨congrArg Ending.returned (congrArg (Value.int .u8) ?_), rfl⟩
    have := H1.out
    simpa [rotN] using this

end Go.Proofs.Ytblgdfamomlklaa
/- aes: Sub, Unsub; the document's. -/
namespace Go.Proofs.Ytblgdfamomlklaa
open Go.RowKit

def asubB (b : Nat) : Nat := ((((b ^^^ rotN 1 b) ^^^ rotN 2 b) ^^^ rotN 3 b) ^^^ rotN 4 b) ^^^ 99
def asub (a : UInt8) : UInt8 := UInt8.ofNat (asubB (ainv a).toNat)
def aunB (a : Nat) : Nat := ((rotN 1 a ^^^ rotN 3 a) ^^^ rotN 6 a) ^^^ 5
def aunsub (a : UInt8) : UInt8 := ainv (UInt8.ofNat (aunB a.toNat))
/-- bit number i modulo 8 -/
def bitN (b i : Nat) : Nat := b / 2 ^ (i % 8) % 2
def xbN (b i : Nat) : Nat := ((((bitN b i ^^^ bitN b (i + 4)) ^^^ bitN b (i + 5)) ^^^ bitN b (i + 6)) ^^^ bitN b (i + 7)) ^^^ bitN 99 i
def accN (b : Nat) : Nat → Nat
  | 0 => 0
  | k + 1 => accN b k ||| (xbN b k * 2 ^ k % 256)

theorem x_lt {a b : Nat} (ha : a < 256) (hb : b < 256) : a ^^^ b < 256 := Nat.xor_lt_two_pow (n := 8) ha hb
theorem bitN_lt (b i : Nat) : bitN b i < 256 := by unfold bitN; omega
theorem accN_lt (b k : Nat) : accN b k < 256 := by
  induction k with
  | zero => show 0 < 256; omega
  | succ k ih => exact Nat.or_lt_two_pow (n := 8) ih (by omega)
theorem asubB_lt {b : Nat} (hb : b < 256) : asubB b < 256 := by
  unfold asubB
  exact x_lt (x_lt (x_lt (x_lt (x_lt hb (rotN_lt hb (by omega))) (rotN_lt hb (by omega))) (rotN_lt hb (by omega))) (rotN_lt hb (by omega))) (by omega)
theorem aunB_lt {b : Nat} (hb : b < 256) : aunB b < 256 := by
  unfold aunB
  exact x_lt (x_lt (x_lt (rotN_lt hb (by omega)) (rotN_lt hb (by omega))) (rotN_lt hb (by omega))) (by omega)
theorem all256 {p : UInt8 → Bool} (h : (List.range 256).all (fun i => p (UInt8.ofNat i)) = true) (a : UInt8) : p a = true := by
  have := List.all_eq_true.1 h a.toNat (by simpa using a.toNat_lt)
  rwa [UInt8.ofNat_toNat] at this
theorem ofNat_u8 {n : Nat} (h : n < 256) : (UInt8.ofNat n).toNat = n := by rw [UInt8.toNat_ofNat', Nat.mod_eq_of_lt h]
theorem acc_sub (a : UInt8) : accN (ainv a).toNat 8 = asubB (ainv a).toNat := by
  have := all256 (p := fun b => accN b.toNat 8 == asubB b.toNat) (by decide +kernel) (ainv a)
  simpa using this
theorem un_sub (a : UInt8) : aunsub (asub a) = a := by
  have := all256 (p := fun b => aunsub (asub b) == b) (by decide +kernel) a
  simpa using this
theorem sub_un (a : UInt8) : asub (aunsub a) = a := by
  have := all256 (p := fun b => asub (aunsub b) == b) (by decide +kernel) a
  simpa using this

set_option maxRecDepth 100000 in
set_option maxHeartbeats 1000000 in
theorem sub_i (x : Int) (a : UInt8) (w : World) (hx : (a.toNat : Int) = x) :
    Calls Try.prog 51 #[.int .u8 x] w fun e w' => e = .returned (.int .u8 ((asub a).toNat : Nat)) ∧ w = w' := by
  subst hx
  have e : (asub a).toNat = asubB (ainv a).toNat := ofNat_u8 (asubB_lt (ainv a).toNat_lt)
  rw [e]
  clear e
  have hb := (ainv a).toNat_lt
  obtain ⟨b, hbe⟩ : ∃ b, b = (ainv a).toNat := ⟨_, rfl⟩
  have hc := fun w => inverse_i _ a w rfl
  rw [← hbe] at hb hc ⊢
  have HC := Lib.hid hc
  clear hc hbe
  obtain ⟨r1, e1⟩ : ∃ r, r = rotN 1 b := ⟨_, rfl⟩
  obtain ⟨r2, e2⟩ : ∃ r, r = rotN 2 b := ⟨_, rfl⟩
  obtain ⟨r3, e3⟩ : ∃ r, r = rotN 3 b := ⟨_, rfl⟩
  obtain ⟨r4, e4⟩ : ∃ r, r = rotN 4 b := ⟨_, rfl⟩
  have l1 : r1 < 256 := e1 ▸ rotN_lt hb (by omega)
  have l2 : r2 < 256 := e2 ▸ rotN_lt hb (by omega)
  have l3 : r3 < 256 := e3 ▸ rotN_lt hb (by omega)
  have l4 : r4 < 256 := e4 ▸ rotN_lt hb (by omega)
  have t1 := fun w => turn_any b 1 hb (by omega) w
  have t2 := fun w => turn_any b 2 hb (by omega) w
  have t3 := fun w => turn_any b 3 hb (by omega) w
  have t4 := fun w => turn_any b 4 hb (by omega) w
  have x1 := xor_val b r1 hb l1
  have x2 := xor_val (b ^^^ r1) r2 (x_lt hb l1) l2
  have x3 := xor_val ((b ^^^ r1) ^^^ r2) r3 (x_lt (x_lt hb l1) l2) l3
  have x4 := xor_val (((b ^^^ r1) ^^^ r2) ^^^ r3) r4 (x_lt (x_lt (x_lt hb l1) l2) l3) l4
  have x5 := xor_val ((((b ^^^ r1) ^^^ r2) ^^^ r3) ^^^ r4) 99 (x_lt (x_lt (x_lt (x_lt hb l1) l2) l3) l4) (by omega)
  have x5' : bits .xor .u8 (((((b ^^^ r1) ^^^ r2) ^^^ r3) ^^^ r4 : Nat) : Int) 99 = ((((((b ^^^ r1) ^^^ r2) ^^^ r3) ^^^ r4) ^^^ 99 : Nat) : Int) := x5
  unfold asubB
  rw [← e1, ← e2, ← e3, ← e4]
  rw [← e1] at t1
  rw [← e2] at t2
  rw [← e3] at t3
  rw [← e4] at t4
  have T1 := Lib.hid t1
  have T2 := Lib.hid t2
  have T3 := Lib.hid t3
  have T4 := Lib.hid t4
  clear t1 t2 t3 t4 e1 e2 e3 e4 l1 l2 l3 l4 x5
  go_enter Try.func51, Try.ntmps51
  go_wp2_with fail
  refine (HC.out _).mono ?_
  rintro e w' ⟨rfl, rfl⟩
  go_wp2_with fail
  refine (T1.out _).mono ?_
  rintro e w' ⟨rfl, rfl⟩
  go_wp2_with fail
  refine (T2.out _).mono ?_
  rintro e w' ⟨rfl, rfl⟩
  go_wp2_with fail
  refine (T3.out _).mono ?_
  rintro e w' ⟨rfl, rfl⟩
  go_wp2_with fail
  refine (T4.out _).mono ?_
  rintro e w' ⟨rfl, rfl⟩
  go_wp2_with fail
  go_ret
  exact ⟨rfl, rfl⟩

set_option maxRecDepth 100000 in
set_option maxHeartbeats 1000000 in
theorem bit_i (x y : Int) (b i : Nat) (w : World) (hx : (b : Int) = x) (hy : (i : Int) = y) (hb : b < 256) (hi : i < 15) :
    Calls Try.prog 77 #[.int .u8 x, .int .i64 y] w fun e w' => e = .returned (.int .u8 (bitN b i : Nat)) ∧ w = w' := by
  subst hx; subst hy
  have h1 := and_one (b / 2 ^ (i % 8)) (by have := Nat.div_le_self b (2 ^ (i % 8)); omega)
  have H1 := Lib.hid h1
  clear h1
  rcases (by omega : i = 0 ∨ i = 1 ∨ i = 2 ∨ i = 3 ∨ i = 4 ∨ i = 5 ∨ i = 6 ∨ i = 7 ∨ i = 8 ∨ i = 9 ∨ i = 10 ∨ i = 11 ∨ i = 12 ∨ i = 13 ∨ i = 14) with rfl | rfl | rfl | rfl | rfl | rfl | rfl | rfl | rfl | rfl | rfl | rfl | rfl | rfl | rfl
  all_goals
    go_enter Try.func77, Try.ntmps77
    go_wp2
    go_ret
    refine ⟨congrArg Ending.returned (congrArg (Value.int .u8) ?_), rfl⟩
    have := H1.out
    simpa [bitN] using this

set_option maxRecDepth 100000 in
set_option maxHeartbeats 4000000 in
theorem refSub_i (x : Int) (a : UInt8) (w : World) (hx : (a.toNat : Int) = x) :
    Calls Try.prog 72 #[.int .u8 x] w fun e w' => e = .returned (.int .u8 ((asub a).toNat : Nat)) ∧ w = w' := by
  subst hx
  have e : (asub a).toNat = asubB (ainv a).toNat := ofNat_u8 (asubB_lt (ainv a).toNat_lt)
  rw [e, ← acc_sub]
  clear e
  have hb := (ainv a).toNat_lt
  obtain ⟨b, hbe⟩ : ∃ b, b = (ainv a).toNat := ⟨_, rfl⟩
  have hc := fun w => refInverse_i _ a w rfl
  rw [← hbe] at hb hc ⊢
  have HC := Lib.hid hc
  clear hc hbe
  go_enter Try.func72, Try.ntmps72
  go_wp2_with fail
  refine (HC.out _).mono ?_
  rintro e w' ⟨rfl, rfl⟩
  go_wp2_with fail
  go_loop [4, 5] (fun vo vi => ∃ k : Nat, k ≤ 8 ∧ vi = .int .i64 k ∧ vo = .int .u8 (accN b k : Nat)) (fun _ vi => 8 - (intOf vi).toNat)
  case atStart => exact ⟨0, by omega, rfl, rfl⟩
  case round =>
    obtain ⟨k, hk, rfl, rfl⟩ := hrel
    rcases (by omega : k = 0 ∨ k = 1 ∨ k = 2 ∨ k = 3 ∨ k = 4 ∨ k = 5 ∨ k = 6 ∨ k = 7 ∨ k = 8) with rfl | rfl | rfl | rfl | rfl | rfl | rfl | rfl | rfl
    · -- round 0
      have l0 := bitN_lt b 0
      have l4 := bitN_lt b 4
      have l5 := bitN_lt b 5
      have l6 := bitN_lt b 6
      have l7 := bitN_lt b 7
      have l9 := bitN_lt 99 0
      have x1 := xor_val _ _ l0 l4
      have x2 := xor_val _ _ (x_lt l0 l4) l5
      have x3 := xor_val _ _ (x_lt (x_lt l0 l4) l5) l6
      have x4 := xor_val _ _ (x_lt (x_lt (x_lt l0 l4) l5) l6) l7
      have x5 := xor_val _ _ (x_lt (x_lt (x_lt (x_lt l0 l4) l5) l6) l7) l9
      have ho := u8_or_nat (accN b 0) (xbN b 0 * 2 ^ 0 % 256) (accN_lt b 0) (by omega)
      have HO := Lib.hid ho
      clear ho l0 l4 l5 l6 l7 l9
      go_wp2_with fail
      refine (bit_i _ _ b 0 _ rfl rfl (by omega) (by omega)).mono ?_
      rintro e w' ⟨rfl, rfl⟩
      go_wp2_with fail
      refine (bit_i _ _ b 4 _ rfl rfl (by omega) (by omega)).mono ?_
      rintro e w' ⟨rfl, rfl⟩
      go_wp2_with fail
      refine (bit_i _ _ b 5 _ rfl rfl (by omega) (by omega)).mono ?_
      rintro e w' ⟨rfl, rfl⟩
      go_wp2_with fail
      refine (bit_i _ _ b 6 _ rfl rfl (by omega) (by omega)).mono ?_
      rintro e w' ⟨rfl, rfl⟩
      go_wp2_with fail
      refine (bit_i _ _ b 7 _ rfl rfl (by omega) (by omega)).mono ?_
      rintro e w' ⟨rfl, rfl⟩
      go_wp2_with fail
      refine (bit_i _ _ 99 0 _ rfl rfl (by omega) (by omega)).mono ?_
      rintro e w' ⟨rfl, rfl⟩
      go_wp2_with fail
      go_round
      case rel =>
        refine ⟨1, by omega, rfl, congrArg (Value.int .u8) ?_⟩
        have := HO.out
        simpa [accN, xbN] using this
      case measure => simp [intOf]
    · -- round 1
      have l0 := bitN_lt b 1
      have l4 := bitN_lt b 5
      have l5 := bitN_lt b 6
      have l6 := bitN_lt b 7
      have l7 := bitN_lt b 8
      have l9 := bitN_lt 99 1
      have x1 := xor_val _ _ l0 l4
      have x2 := xor_val _ _ (x_lt l0 l4) l5
      have x3 := xor_val _ _ (x_lt (x_lt l0 l4) l5) l6
      have x4 := xor_val _ _ (x_lt (x_lt (x_lt l0 l4) l5) l6) l7
      have x5 := xor_val _ _ (x_lt (x_lt (x_lt (x_lt l0 l4) l5) l6) l7) l9
      have ho := u8_or_nat (accN b 1) (xbN b 1 * 2 ^ 1 % 256) (accN_lt b 1) (by omega)
      have HO := Lib.hid ho
      clear ho l0 l4 l5 l6 l7 l9
      go_wp2_with fail
      refine (bit_i _ _ b 1 _ rfl rfl (by omega) (by omega)).mono ?_
      rintro e w' ⟨rfl, rfl⟩
      go_wp2_with fail
      refine (bit_i _ _ b 5 _ rfl rfl (by omega) (by omega)).mono ?_
      rintro e w' ⟨rfl, rfl⟩
      go_wp2_with fail
      refine (bit_i _ _ b 6 _ rfl rfl (by omega) (by omega)).mono ?_
      rintro e w' ⟨rfl, rfl⟩
      go_wp2_with fail
      refine (bit_i _ _ b 7 _ rfl rfl (by omega) (by omega)).mono ?_
      rintro e w' ⟨rfl, rfl⟩
      go_wp2_with fail
      refine (bit_i _ _ b 8 _ rfl rfl (by omega) (by omega)).mono ?_
      rintro e w' ⟨rfl, rfl⟩
      go_wp2_with fail
      refine (bit_i _ _ 99 1 _ rfl rfl (by omega) (by omega)).mono ?_
      rintro e w' ⟨rfl, rfl⟩
      go_wp2_with fail
      go_round
      case rel =>
        refine ⟨2, by omega, rfl, congrArg (Value.int .u8) ?_⟩
        have := HO.out
        simpa [accN, xbN] using this
      case measure => simp [intOf]
    · -- round 2
      have l0 := bitN_lt b 2
      have l4 := bitN_lt b 6
      have l5 := bitN_lt b 7
      have l6 := bitN_lt b 8
      have l7 := bitN_lt b 9
      have l9 := bitN_lt 99 2
      have x1 := xor_val _ _ l0 l4
      have x2 := xor_val _ _ (x_lt l0 l4) l5
      have x3 := xor_val _ _ (x_lt (x_lt l0 l4) l5) l6
      have x4 := xor_val _ _ (x_lt (x_lt (x_lt l0 l4) l5) l6) l7
      have x5 := xor_val _ _ (x_lt (x_lt (x_lt (x_lt l0 l4) l5) l6) l7) l9
      have ho := u8_or_nat (accN b 2) (xbN b 2 * 2 ^ 2 % 256) (accN_lt b 2) (by omega)
      have HO := Lib.hid ho
      clear ho l0 l4 l5 l6 l7 l9
      go_wp2_with fail
      refine (bit_i _ _ b 2 _ rfl rfl (by omega) (by omega)).mono ?_
      rintro e w' ⟨rfl, rfl⟩
      go_wp2_with fail
      refine (bit_i _ _ b 6 _ rfl rfl (by omega) (by omega)).mono ?_
      rintro e w' ⟨rfl, rfl⟩
      go_wp2_with fail
      refine (bit_i _ _ b 7 _ rfl rfl (by omega) (by omega)).mono ?_
      rintro e w' ⟨rfl, rfl⟩
      go_wp2_with fail
      refine (bit_i _ _ b 8 _ rfl rfl (by omega) (by omega)).mono ?_
      rintro e w' ⟨rfl, rfl⟩
      go_wp2_with fail
      refine (bit_i _ _ b 9 _ rfl rfl (by omega) (by omega)).mono ?_
      rintro e w' ⟨rfl, rfl⟩
      go_wp2_with fail
      refine (bit_i _ _ 99 2 _ rfl rfl (by omega) (by omega)).mono ?_
      rintro e w' ⟨rfl, rfl⟩
      go_wp2_with fail
      go_round
      case rel =>
        refine ⟨3, by omega, rfl, congrArg (Value.int .u8) ?_⟩
        have := HO.out
        simpa [accN, xbN] using this
      case measure => simp [intOf]
    · -- round 3
      have l0 := bitN_lt b 3
      have l4 := bitN_lt b 7
      have l5 := bitN_lt b 8
      have l6 := bitN_lt b 9
      have l7 := bitN_lt b 10
      have l9 := bitN_lt 99 3
      have x1 := xor_val _ _ l0 l4
      have x2 := xor_val _ _ (x_lt l0 l4) l5
      have x3 := xor_val _ _ (x_lt (x_lt l0 l4) l5) l6
      have x4 := xor_val _ _ (x_lt (x_lt (x_lt l0 l4) l5) l6) l7
      have x5 := xor_val _ _ (x_lt (x_lt (x_lt (x_lt l0 l4) l5) l6) l7) l9
      have ho := u8_or_nat (accN b 3) (xbN b 3 * 2 ^ 3 % 256) (accN_lt b 3) (by omega)
      have HO := Lib.hid ho
      clear ho l0 l4 l5 l6 l7 l9
      go_wp2_with fail
      refine (bit_i _ _ b 3 _ rfl rfl (by omega) (by omega)).mono ?_
      rintro e w' ⟨rfl, rfl⟩
      go_wp2_with fail
      refine (bit_i _ _ b 7 _ rfl rfl (by omega) (by omega)).mono ?_
      rintro e w' ⟨rfl, rfl⟩
      go_wp2_with fail
      refine (bit_i _ _ b 8 _ rfl rfl (by omega) (by omega)).mono ?_
      rintro e w' ⟨rfl, rfl⟩
      go_wp2_with fail
      refine (bit_i _ _ b 9 _ rfl rfl (by omega) (by omega)).mono ?_
      rintro e w' ⟨rfl, rfl⟩
      go_wp2_with fail
      refine (bit_i _ _ b 10 _ rfl rfl (by omega) (by omega)).mono ?_
      rintro e w' ⟨rfl, rfl⟩
      go_wp2_with fail
      refine (bit_i _ _ 99 3 _ rfl rfl (by omega) (by omega)).mono ?_
      rintro e w' ⟨rfl, rfl⟩
      go_wp2_with fail
      go_round
      case rel =>
        refine ⟨4, by omega, rfl, congrArg (Value.int .u8) ?_⟩
        have := HO.out
        simpa [accN, xbN] using this
      case measure => simp [intOf]
    · -- round 4
      have l0 := bitN_lt b 4
      have l4 := bitN_lt b 8
      have l5 := bitN_lt b 9
      have l6 := bitN_lt b 10
      have l7 := bitN_lt b 11
      have l9 := bitN_lt 99 4
      have x1 := xor_val _ _ l0 l4
      have x2 := xor_val _ _ (x_lt l0 l4) l5
      have x3 := xor_val _ _ (x_lt (x_lt l0 l4) l5) l6
      have x4 := xor_val _ _ (x_lt (x_lt (x_lt l0 l4) l5) l6) l7
      have x5 := xor_val _ _ (x_lt (x_lt (x_lt (x_lt l0 l4) l5) l6) l7) l9
      have ho := u8_or_nat (accN b 4) (xbN b 4 * 2 ^ 4 % 256) (accN_lt b 4) (by omega)
      have HO := Lib.hid ho
      clear ho l0 l4 l5 l6 l7 l9
      go_wp2_with fail
      refine (bit_i _ _ b 4 _ rfl rfl (by omega) (by omega)).mono ?_
      rintro e w' ⟨rfl, rfl⟩
      go_wp2_with fail
      refine (bit_i _ _ b 8 _ rfl rfl (by omega) (by omega)).mono ?_
      rintro e w' ⟨rfl, rfl⟩
      go_wp2_with fail
      refine (bit_i _ _ b 9 _ rfl rfl (by omega) (by omega)).mono ?_
      rintro e w' ⟨rfl, rfl⟩
      go_wp2_with fail
      refine (bit_i _ _ b 10 _ rfl rfl (by omega) (by omega)).mono ?_
      rintro e w' ⟨rfl, rfl⟩
      go_wp2_with fail
      refine (bit_i _ _ b 11 _ rfl rfl (by omega) (by omega)).mono ?_
      rintro e w' ⟨rfl, rfl⟩
      go_wp2_with fail
      refine (bit_i _ _ 99 4 _ rfl rfl (by omega) (by omega)).mono ?_
      rintro e w' ⟨rfl, rfl⟩
      go_wp2_with fail
      go_round
      case rel =>
        refine ⟨5, by omega, rfl, congrArg (Value.int .u8) ?_⟩
        have := HO.out
        simpa [accN, xbN] using this
      case measure => simp [intOf]
    · -- round 5
      have l0 := bitN_lt b 5
      have l4 := bitN_lt b 9
      have l5 := bitN_lt b 10
      have l6 := bitN_lt b 11
      have l7 := bitN_lt b 12
      have l9 := bitN_lt 99 5
      have x1 := xor_val _ _ l0 l4
      have x2 := xor_val _ _ (x_lt l0 l4) l5
      have x3 := xor_val _ _ (x_lt (x_lt l0 l4) l5) l6
      have x4 := xor_val _ _ (x_lt (x_lt (x_lt l0 l4) l5) l6) l7
      have x5 := xor_val _ _ (x_lt (x_lt (x_lt (x_lt l0 l4) l5) l6) l7) l9
      have ho := u8_or_nat (accN b 5) (xbN b 5 * 2 ^ 5 % 256) (accN_lt b 5) (by omega)
      have HO := Lib.hid ho
      clear ho l0 l4 l5 l6 l7 l9
      go_wp2_with fail
      refine (bit_i _ _ b 5 _ rfl rfl (by omega) (by omega)).mono ?_
      rintro e w' ⟨rfl, rfl⟩
      go_wp2_with fail
      refine (bit_i _ _ b 9 _ rfl rfl (by omega) (by omega)).mono ?_
      rintro e w' ⟨rfl, rfl⟩
      go_wp2_with fail
      refine (bit_i _ _ b 10 _ rfl rfl (by omega) (by omega)).mono ?_
      rintro e w' ⟨rfl, rfl⟩
      go_wp2_with fail
      refine (bit_i _ _ b 11 _ rfl rfl (by omega) (by omega)).mono ?_
      rintro e w' ⟨rfl, rfl⟩
      go_wp2_with fail
      refine (bit_i _ _ b 12 _ rfl rfl (by omega) (by omega)).mono ?_
      rintro e w' ⟨rfl, rfl⟩
      go_wp2_with fail
      refine (bit_i _ _ 99 5 _ rfl rfl (by omega) (by omega)).mono ?_
      rintro e w' ⟨rfl, rfl⟩
      go_wp2_with fail
      go_round
      case rel =>
        refine ⟨6, by omega, rfl, congrArg (Value.int .u8) ?_⟩
        have := HO.out
        simpa [accN, xbN] using this
      case measure => simp [intOf]
    · -- round 6
      have l0 := bitN_lt b 6
      have l4 := bitN_lt b 10
      have l5 := bitN_lt b 11
      have l6 := bitN_lt b 12
      have l7 := bitN_lt b 13
      have l9 := bitN_lt 99 6
      have x1 := xor_val _ _ l0 l4
      have x2 := xor_val _ _ (x_lt l0 l4) l5
      have x3 := xor_val _ _ (x_lt (x_lt l0 l4) l5) l6
      have x4 := xor_val _ _ (x_lt (x_lt (x_lt l0 l4) l5) l6) l7
      have x5 := xor_val _ _ (x_lt (x_lt (x_lt (x_lt l0 l4) l5) l6) l7) l9
      have ho := u8_or_nat (accN b 6) (xbN b 6 * 2 ^ 6 % 256) (accN_lt b 6) (by omega)
      have HO := Lib.hid ho
      clear ho l0 l4 l5 l6 l7 l9
      go_wp2_with fail
      refine (bit_i _ _ b 6 _ rfl rfl (by omega) (by omega)).mono ?_
      rintro e w' ⟨rfl, rfl⟩
      go_wp2_with fail
      refine (bit_i _ _ b 10 _ rfl rfl (by omega) (by omega)).mono ?_
      rintro e w' ⟨rfl, rfl⟩
      go_wp2_with fail
      refine (bit_i _ _ b 11 _ rfl rfl (by omega) (by omega)).mono ?_
      rintro e w' ⟨rfl, rfl⟩
      go_wp2_with fail
      refine (bit_i _ _ b 12 _ rfl rfl (by omega) (by omega)).mono ?_
      rintro e w' ⟨rfl, rfl⟩
      go_wp2_with fail
      refine (bit_i _ _ b 13 _ rfl rfl (by omega) (by omega)).mono ?_
      rintro e w' ⟨rfl, rfl⟩
      go_wp2_with fail
      refine (bit_i _ _ 99 6 _ rfl rfl (by omega) (by omega)).mono ?_
      rintro e w' ⟨rfl, rfl⟩
      go_wp2_with fail
      go_round
      case rel =>
        refine ⟨7, by omega, rfl, congrArg (Value.int .u8) ?_⟩
        have := HO.out
        simpa [accN, xbN] using this
      case measure => simp [intOf]
    · -- round 7
      have l0 := bitN_lt b 7
      have l4 := bitN_lt b 11
      have l5 := bitN_lt b 12
      have l6 := bitN_lt b 13
      have l7 := bitN_lt b 14
      have l9 := bitN_lt 99 7
      have x1 := xor_val _ _ l0 l4
      have x2 := xor_val _ _ (x_lt l0 l4) l5
      have x3 := xor_val _ _ (x_lt (x_lt l0 l4) l5) l6
      have x4 := xor_val _ _ (x_lt (x_lt (x_lt l0 l4) l5) l6) l7
      have x5 := xor_val _ _ (x_lt (x_lt (x_lt (x_lt l0 l4) l5) l6) l7) l9
      have ho := u8_or_nat (accN b 7) (xbN b 7 * 2 ^ 7 % 256) (accN_lt b 7) (by omega)
      have HO := Lib.hid ho
      clear ho l0 l4 l5 l6 l7 l9
      go_wp2_with fail
      refine (bit_i _ _ b 7 _ rfl rfl (by omega) (by omega)).mono ?_
      rintro e w' ⟨rfl, rfl⟩
      go_wp2_with fail
      refine (bit_i _ _ b 11 _ rfl rfl (by omega) (by omega)).mono ?_
      rintro e w' ⟨rfl, rfl⟩
      go_wp2_with fail
      refine (bit_i _ _ b 12 _ rfl rfl (by omega) (by omega)).mono ?_
      rintro e w' ⟨rfl, rfl⟩
      go_wp2_with fail
      refine (bit_i _ _ b 13 _ rfl rfl (by omega) (by omega)).mono ?_
      rintro e w' ⟨rfl, rfl⟩
      go_wp2_with fail
      refine (bit_i _ _ b 14 _ rfl rfl (by omega) (by omega)).mono ?_
      rintro e w' ⟨rfl, rfl⟩
      go_wp2_with fail
      refine (bit_i _ _ 99 7 _ rfl rfl (by omega) (by omega)).mono ?_
      rintro e w' ⟨rfl, rfl⟩
      go_wp2_with fail
      go_round
      case rel =>
        refine ⟨8, by omega, rfl, congrArg (Value.int .u8) ?_⟩
        have := HO.out
        simpa [accN, xbN] using this
      case measure => simp [intOf]
    · go_wp2_with fail
      go_ret
      exact ⟨rfl, rfl⟩

end Go.Proofs.Ytblgdfamomlklaa
/- States and blocks as rows of sixteen bytes. No walk. -/
namespace Go.Proofs.Ytblgdfamomlklaa
open Go.RowKit

/-- a row of bytes as the cells of an array -/
def cellsB (l : List UInt8) : Array Value := (l.map bval).toArray
def aggB (l : List UInt8) : Value := .agg (cellsB l)

theorem ex16 {l : List UInt8} (h : l.length = 16) : ∃ x0 x1 x2 x3 x4 x5 x6 x7 x8 x9 x10 x11 x12 x13 x14 x15, l = [x0, x1, x2, x3, x4, x5, x6, x7, x8, x9, x10, x11, x12, x13, x14, x15] := by
  match l, h with
  | [x0, x1, x2, x3, x4, x5, x6, x7, x8, x9, x10, x11, x12, x13, x14, x15], _ => exact ⟨x0, x1, x2, x3, x4, x5, x6, x7, x8, x9, x10, x11, x12, x13, x14, x15, rfl⟩

/-- rows and columns changed -/
def trL : List UInt8 → List UInt8
  | [x0, x1, x2, x3, x4, x5, x6, x7, x8, x9, x10, x11, x12, x13, x14, x15] => [x0, x4, x8, x12, x1, x5, x9, x13, x2, x6, x10, x14, x3, x7, x11, x15]
  | _ => []
/-- the rows turned -/
def shL : List UInt8 → List UInt8
  | [x0, x1, x2, x3, x4, x5, x6, x7, x8, x9, x10, x11, x12, x13, x14, x15] => [x0, x1, x2, x3, x5, x6, x7, x4, x10, x11, x8, x9, x15, x12, x13, x14]
  | _ => []
def unshL : List UInt8 → List UInt8
  | [x0, x1, x2, x3, x4, x5, x6, x7, x8, x9, x10, x11, x12, x13, x14, x15] => [x0, x1, x2, x3, x7, x4, x5, x6, x10, x11, x8, x9, x13, x14, x15, x12]
  | _ => []
theorem tr_tr {l : List UInt8} (h : l.length = 16) : trL (trL l) = l := by obtain ⟨x0, x1, x2, x3, x4, x5, x6, x7, x8, x9, x10, x11, x12, x13, x14, x15, rfl⟩ := ex16 h; rfl
theorem unsh_sh {l : List UInt8} (h : l.length = 16) : unshL (shL l) = l := by obtain ⟨x0, x1, x2, x3, x4, x5, x6, x7, x8, x9, x10, x11, x12, x13, x14, x15, rfl⟩ := ex16 h; rfl
theorem sh_unsh {l : List UInt8} (h : l.length = 16) : shL (unshL l) = l := by obtain ⟨x0, x1, x2, x3, x4, x5, x6, x7, x8, x9, x10, x11, x12, x13, x14, x15, rfl⟩ := ex16 h; rfl
theorem trL_len {l : List UInt8} (h : l.length = 16) : (trL l).length = 16 := by obtain ⟨x0, x1, x2, x3, x4, x5, x6, x7, x8, x9, x10, x11, x12, x13, x14, x15, rfl⟩ := ex16 h; rfl
theorem shL_len {l : List UInt8} (h : l.length = 16) : (shL l).length = 16 := by obtain ⟨x0, x1, x2, x3, x4, x5, x6, x7, x8, x9, x10, x11, x12, x13, x14, x15, rfl⟩ := ex16 h; rfl
theorem unshL_len {l : List UInt8} (h : l.length = 16) : (unshL l).length = 16 := by obtain ⟨x0, x1, x2, x3, x4, x5, x6, x7, x8, x9, x10, x11, x12, x13, x14, x15, rfl⟩ := ex16 h; rfl

end Go.Proofs.Ytblgdfamomlklaa
/- Arrays of bytes, and arrays of such, that came in. -/
namespace Go.Proofs.Ytblgdfamomlklaa
open Go.ChangeShapes Go.WideShapes Go.ChangeAt Go.RowKit

section
variable {H : Type} {enc : TypeId × Value → H} {P : Program} {w : World} {base : Nat} {spare : Nat → Bool} {held : Bool}
theorem okWide_array {r : Reach} {b0 n : Nat} {t e : TypeId} {v : Value} (ht : P.underlying t = some (.array n e)) (h : Value.okWide P w r b0 t v) : ∃ cs, v = .agg cs ∧ cs.size = P.cellsOf t := by
  simp only [Value.okWide, ht] at h
  obtain ⟨cs, h1, h2, _⟩ := h
  exact ⟨cs, h1, h2⟩
theorem allb_list {cs : List Value} (h : ∀ v ∈ cs, ∃ b : UInt8, v = bval b) : ∃ l : List UInt8, cs = l.map bval := by
  induction cs with
  | nil => exact ⟨[], rfl⟩
  | cons v cs ih =>
    obtain ⟨b, rfl⟩ := h v (by simp)
    obtain ⟨l, rfl⟩ := ih (fun u hu => h u (by simp [hu]))
    exact ⟨b :: l, rfl⟩
theorem allb_one {n : Nat} {t e : TypeId} {fuel : Nat} {cs : List Value} {x : DataW H × List MemPlace} (ht : P.underlying t = some (.array n e)) (he : P.underlying e = some (.int .u8)) (hce : P.cellsOf e = 1) (hC : P.cellsOf t = n)
    (h : DataW.trod enc P w base spare held fuel t cs = some x) : ∀ v ∈ cs, ∃ b : UInt8, v = bval b := by
  intro v hv
  obtain ⟨xs, m, _, _, hl, hxl, hi⟩ := DataW.trod_array ht h
  obtain ⟨i, hil, rfl⟩ := List.getElem_of_mem hv
  have h1 := hi i (by omega)
  rw [hce, Nat.mul_one, List.drop_eq_getElem_cons hil, List.getElem?_eq_getElem (by omega)] at h1
  have h2 : DataW.trod enc P w base spare held m e [cs[i]] = some (xs[i]'(by omega)) := h1
  obtain ⟨a, ea, _, wa⟩ := DataW.trod_int he h2
  obtain ⟨b, rfl⟩ := byte_of_wf wa
  injection ea with ea
  exact ⟨b, ea⟩
theorem allb_two {n k : Nat} {t e f : TypeId} {fuel : Nat} {cs : List Value} {x : DataW H × List MemPlace} (ht : P.underlying t = some (.array n e)) (he : P.underlying e = some (.array k f)) (hf : P.underlying f = some (.int .u8)) (hcf : P.cellsOf f = 1) (hce : P.cellsOf e = k) (hC : P.cellsOf t = n * k) (hk : 0 < k)
    (h : DataW.trod enc P w base spare held fuel t cs = some x) : ∀ v ∈ cs, ∃ b : UInt8, v = bval b := by
  intro v hv
  obtain ⟨xs, m, _, _, hl, hxl, hi⟩ := DataW.trod_array ht h
  obtain ⟨i, hil, rfl⟩ := List.getElem_of_mem hv
  have hin : i / k < n := by rw [Nat.div_lt_iff_lt_mul hk]; omega
  have h1 := hi (i / k) hin
  rw [hce, List.getElem?_eq_getElem (by omega)] at h1
  refine allb_one he hf hcf hce h1 _ ?_
  rw [List.mem_iff_getElem?]
  refine ⟨i % k, ?_⟩
  rw [List.getElem?_take, if_pos (Nat.mod_lt _ hk), List.getElem?_drop, Nat.mul_comm, Nat.div_add_mod, List.getElem?_eq_getElem hil]
theorem open_b1 {r : Reach} {b0 n : Nat} {t e : TypeId} {v : Value} {d : DataW H} {p : List MemPlace} (ht : P.underlying t = some (.array n e)) (he : P.underlying e = some (.int .u8)) (hce : P.cellsOf e = 1) (hC : P.cellsOf t = n)
    (hv : Value.okWide P w r b0 t v) (h : DataW.Trod enc P w base spare held t v d p) : ∃ l : List UInt8, l.length = n ∧ v = aggB l := by
  obtain ⟨cs, rfl, hs⟩ := okWide_array ht hv
  obtain ⟨fuel, hf⟩ := h
  obtain ⟨l, hl⟩ := allb_list (allb_one ht he hce hC hf)
  have hl' : cs.toList = l.map bval := hl
  refine ⟨l, ?_, ?_⟩
  · have := congrArg List.length hl'
    simp at this
    omega
  · unfold aggB cellsB
    rw [← hl']
theorem open_b2 {r : Reach} {b0 n k : Nat} {t e f : TypeId} {v : Value} {d : DataW H} {p : List MemPlace} (ht : P.underlying t = some (.array n e)) (he : P.underlying e = some (.array k f)) (hf : P.underlying f = some (.int .u8)) (hcf : P.cellsOf f = 1) (hce : P.cellsOf e = k) (hC : P.cellsOf t = n * k) (hk : 0 < k)
    (hv : Value.okWide P w r b0 t v) (h : DataW.Trod enc P w base spare held t v d p) : ∃ l : List UInt8, l.length = n * k ∧ v = aggB l := by
  obtain ⟨cs, rfl, hs⟩ := okWide_array ht hv
  obtain ⟨fuel, hf'⟩ := h
  obtain ⟨l, hl⟩ := allb_list (allb_two ht he hf hcf hce hC hk hf')
  have hl' : cs.toList = l.map bval := hl
  refine ⟨l, ?_, ?_⟩
  · have := congrArg List.length hl'
    simp at this
    omega
  · unfold aggB cellsB
    rw [← hl']
end

end Go.Proofs.Ytblgdfamomlklaa
/- A region that draws its order, all of whose operations come to one value each while a condition on the world stands: whatever the order, one end. -/
namespace Go.Proofs.Ytblgdfamomlklaa
open Go.RowKit

section
variable {P : Program} {ops : Array Oper} {Q : Exit → Act → World → Prop} {md : Region.Mode} {S : World → Prop}

/-- what an operation comes to: the value v, in a world of which S holds -/
def OutS (P : Program) (S : World → Prop) (v : Value) : Result Next → Prop
  | .ok (.value u) w' => u = v ∧ S w'
  | .ok .skip w' => v = undef ∧ S w'
  | .ok (.enter f args) w' => Calls P f args w' fun e w'' => e = .returned v ∧ S w''
  | _ => False

def YS (P : Program) (ops : Array Oper) (S : World → Prop) (o : Oper) (v : Value) (a : Act) : Prop :=
  (Region.wanted o (yielded ops a.tmps) = true ∧ ∀ w, S w → OutS P S v ((execOp a.eval o).run P w)) ∨
  (Region.wanted o (yielded ops a.tmps) = false ∧ v = undef)

theorem YS.of {o : Oper} {v : Value} {a a' : Act} (hy : YS P ops S o v a) (he : execOp a'.eval o = execOp a.eval o)
    (hw : Region.wanted o (yielded ops a'.tmps) = Region.wanted o (yielded ops a.tmps)) : YS P ops S o v a' := by
  unfold YS at *; rw [he, hw]; exact hy

theorem YS.op {i : Nat} {o : Oper} {v : Value} {a : Act} (hi : ops[i]? = some o) (hy : YS P ops S o v a) {K : Act → World → Prop} {w : World} (hS : S w)
    (h : ∀ w', S w' → K (a.put o.dst v) w') : wpOp P ops Q i K a w := by
  unfold Go.wpOp
  simp only [hi]
  rcases hy with ⟨hw, hv⟩ | ⟨hw, rfl⟩
  · simp only [hw, if_true]
    refine .inl ?_
    have h1 := hv w hS
    unfold Oper.wp
    generalize (execOp a.eval o).run P w = r at h1 ⊢
    cases r with
    | ok n w' =>
      cases n with
      | value u => obtain ⟨rfl, hs⟩ := h1; exact h _ hs
      | skip => obtain ⟨rfl, hs⟩ := h1; exact h _ hs
      | enter f args =>
        simp only [OutS] at h1
        simp only [Oper.upon]
        refine Calls.mono h1 fun e w'' he => ?_
        obtain ⟨rfl, hs⟩ := he
        exact h _ hs
      | _ => exact h1.elim
    | halt x w' => exact h1.elim
  · simp only [hw, Bool.false_eq_true, if_false]; exact h _ hS

/-- whatever order is picked, from whatever world of which S holds -/
def wpS (P : Program) (md : Region.Mode) (ops : Array Oper) (Q : Exit → Act → World → Prop) (S : World → Prop) : Nat → Array Bool → Act → Prop
  | 0, listed, a => Region.ready md ops listed = [] ∧ ∀ w, S w → Q .normal a w
  | n + 1, listed, a => (Region.ready md ops listed = [] → ∀ w, S w → Q .normal a w) ∧
    ∀ i ∈ Region.ready md ops listed, ∀ w, S w → wpOp P ops Q i (fun a' w' => S w' ∧ wpS P md ops Q S n (listed.setIfInBounds i true) a') a w

theorem wpS_any : ∀ (n : Nat) (listed : Array Bool) (a : Act) (w : World), wpS P md ops Q S n listed a → S w → wpAny P md ops Q n listed a w
  | 0, _, _, w, h, hS => ⟨h.1, h.2 w hS⟩
  | n + 1, _, _, w, h, hS => ⟨fun h0 => h.1 h0 w hS, fun i hi => wpOp_mono (fun a' w' h' => wpS_any n _ a' w' h'.2 h'.1) (h.2 i hi w hS)⟩

theorem wpS_put {j : Nat} {oi oj : Oper} {v : Value} (hj : ops[j]? = some oj) (hap : oi.apart ops oj = true) (hsi : ∀ cs b, oi.op ≠ .select cs b) (hsj : ∀ cs b, oj.op ≠ .select cs b)
    (hQ : ∀ c a w, Q (.panic c) (a.put oi.dst v) w → Q (.panic c) a w) {K : Act → World → Prop} {a : Act} {w : World}
    (hy : YS P ops S oi v a) (h : wpOp P ops Q j K (a.put oi.dst v) w) : wpOp P ops Q j (fun a' w' => YS P ops S oi v a' ∧ K (a'.put oi.dst v) w') a w := by
  obtain ⟨h1, h2, h3⟩ := Oper.apart_spec hap
  have keep : ∀ (a : Act), YS P ops S oi v a → ∀ u, YS P ops S oi v (a.put oj.dst u) := fun a hy u => hy.of (execOp_put oi hsi a oj.dst u h3) (wanted_put oi a oj.dst u h3)
  unfold Go.wpOp at h ⊢
  simp only [hj] at h ⊢
  rw [wanted_put oj a oi.dst v h1] at h
  by_cases hw : Region.wanted oj (yielded ops a.tmps) = true
  · rw [if_pos hw] at h ⊢
    rcases h with h | ⟨hasks, hlets⟩
    · refine .inl ?_
      unfold Oper.wp at h ⊢
      rw [execOp_put oj hsj a oi.dst v h1] at h
      generalize (execOp a.eval oj).run P w = r at h ⊢
      cases r with
      | ok n w' =>
        cases n <;> simp only [Oper.upon] at h ⊢
        case value u => exact ⟨keep a hy u, by rw [← Act.put_comm a v u h2]; exact h⟩
        case skip => exact ⟨keep a hy _, by rw [← Act.put_comm a v undef h2]; exact h⟩
        case defer d =>
          refine ⟨keep { a with defers := d :: a.defers } (hy.of rfl rfl) _, ?_⟩
          rw [← Act.put_comm _ v undef h2, ← Act.put_defers]
          exact h
        case enter f args =>
          refine Calls.mono h fun e w'' he => ?_
          cases e with
          | returned u => exact ⟨keep a hy u, by rw [← Act.put_comm a v u h2]; exact he⟩
          | panicked c => exact hQ _ _ _ he
          | outgrown => exact he
        case row row args => exact Rows.mono h fun u w'' he => ⟨keep a hy u, by rw [← Act.put_comm a v u h2]; exact he⟩
      | halt x w' =>
        cases x <;> simp only [Oper.upon] at h ⊢
        case panic u => exact hQ _ _ _ h
    · exact .inr ⟨by unfold Oper.asks at hasks ⊢; rw [execOp_put oj hsj a oi.dst v h1] at hasks; exact hasks, hlets⟩
  · rw [if_neg hw] at h ⊢
    exact ⟨keep a hy _, by rw [← Act.put_comm a v undef h2]; exact h⟩

theorem wpS_first {i : Nat} {oi : Oper} {v : Value} (hi : ops[i]? = some oi) (hsel : ∀ (j : Nat) (o : Oper) cs b, ops[j]? = some o → o.op ≠ .select cs b)
    (hQ : ∀ c a w, Q (.panic c) (a.put oi.dst v) w → Q (.panic c) a w) : ∀ (n : Nat) (listed : Array Bool) (a : Act),
      (∀ j oj, ops[j]? = some oj → j ≠ i → listed.getD j true = false → (∀ e ∈ oj.after, Region.binds md e = true → e.on ≠ i) → oi.apart ops oj = true) →
      i ∈ Region.ready md ops listed → YS P ops S oi v a → wpS P md ops Q S n (listed.setIfInBounds i true) (a.put oi.dst v) → wpS P md ops Q S (n + 1) listed a := by
  intro n
  induction n with
  | zero =>
    intro listed a _ hr hy H
    refine ⟨fun h => (by rw [h] at hr; cases hr), fun j hj w hS => ?_⟩
    by_cases hji : j = i
    · subst hji; exact hy.op hi hS fun w' hs => ⟨hs, H⟩
    · have := ready_mono hj hji
      rw [H.1] at this
      cases this
  | succ n ih =>
    intro listed a hfree hr hy H
    refine ⟨fun h => (by rw [h] at hr; cases hr), fun j hj w hS => ?_⟩
    by_cases hji : j = i
    · subst hji; exact hy.op hi hS fun w' hs => ⟨hs, H⟩
    · have h1 := H.2 j (ready_mono hj hji) w hS
      obtain ⟨hjun, oj, hoj, hall⟩ := mem_ready.1 hj
      have hnot : ∀ e ∈ oj.after, Region.binds md e = true → e.on ≠ i := by
        intro e he hb heq
        have h1 := hall e he hb
        have h0 := (mem_ready.1 hr).1
        rw [heq] at h1
        rcases Nat.lt_or_ge i listed.size with h' | h'
        · simp [h'] at h0 h1; rw [h0] at h1; cases h1
        · simp [Array.getElem?_eq_none h'] at h1
      have h2 := wpS_put hoj (hfree j oj hoj hji hjun hnot) (fun cs b => hsel i oi cs b hi) (fun cs b => hsel j oj cs b hoj) hQ hy h1
      refine wpOp_mono (fun a' w' h3 => ⟨h3.2.1, ih (listed.setIfInBounds j true) a' (fun k ok hk hki hun hno => ?_) (ready_mono hr (Ne.symm hji)) h3.1 ?_⟩) h2
      · refine hfree k ok hk hki ?_ hno
        by_cases hjk : j = k
        · subst hjk; exact hjun
        · rw [getD_set_ne true hjk] at hun; exact hun
      · rw [Array.setIfInBounds_comm _ _ hji]
        exact h3.2.2

/-- number i first -/
theorem wpS_take (i : Nat) {oi : Oper} {v : Value} {n : Nat} {listed : Array Bool} {a : Act} (hi : ops[i]? = some oi)
    (hs : Region.noSelect ops = true) (hf : Region.free md ops listed i = true) (hr : (Region.ready md ops listed).contains i = true)
    (hQ : ∀ c a w, Q (.panic c) (a.put oi.dst v) w → Q (.panic c) a w) (hy : YS P ops S oi v a)
    (h : wpS P md ops Q S n (listed.setIfInBounds i true) (a.put oi.dst v)) : wpS P md ops Q S (n + 1) listed a :=
  wpS_first hi (Region.noSelect_spec hs) hQ n listed a (Region.free_spec hi hf) (by simpa using hr) hy h
theorem wpS_done {listed : Array Bool} {a : Act} (hr : Region.ready md ops listed = []) (h : ∀ w, S w → Q .normal a w) : ∀ n, wpS P md ops Q S n listed a
  | 0 => ⟨hr, h⟩
  | _ + 1 => ⟨fun _ => h, by rw [hr]; simp⟩
theorem wp_regionS (S : World → Prop) {id : Nat} {a : Act} {w : World} (hm : P.follows .mixedOrders = true) (hS : S w.drew)
    (h : wpS P .any ops Q S ops.size (Array.replicate ops.size false) a) : (Code.region id ops true).wp P Q a w :=
  wp_region_any hm (wpS_any _ _ _ _ h hS)

/-- an operation that looks at no memory, or reads what S tells of -/
theorem YS.val {o : Oper} {v : Value} {a : Act} (hw : Region.wanted o (yielded ops a.tmps) = true) (h : ∀ w, S w → (execOp a.eval o).run P w = .ok (.value v) w) : YS P ops S o v a :=
  .inl ⟨hw, fun w hS => by rw [h w hS]; exact ⟨rfl, hS⟩⟩
/-- a call by its contract -/
theorem YS.call {o : Oper} {v : Value} {a : Act} {f : FuncId} {args : Array Value} (hw : Region.wanted o (yielded ops a.tmps) = true) (h : ∀ w, (execOp a.eval o).run P w = .ok (.enter f args) w)
    (hc : ∀ w, S w → Calls P f args w fun e w' => e = .returned v ∧ S w') : YS P ops S o v a :=
  .inl ⟨hw, fun w hS => by rw [h w]; exact hc w hS⟩
/-- the load of a whole row -/
theorem YS.row {o : Oper} {a : Act} (hw : Region.wanted o (yielded ops a.tmps) = true) (ty : TypeId) (x : Operand) (ho : o.op = .load ty x)
    (b : Nat) (hx : a.eval x = .pointer (some ⟨b, 0, none⟩)) (cs : List Value) (d : TypeDesc) (hS : ∀ w, S w → w.rangeAt b 0 cs)
    (hu : P.underlying ty = some d) (hd : d.isRow = true) (hi : (P.info? ty).map (·.size) = some cs.length) : YS P ops S o (.agg cs.toArray) a := by
  rcases yieldsIf_load_mid (P := P) (ops := ops) hw ty x ho b 0 hx cs d hS hu hd hi with ⟨h1, h2⟩ | ⟨h1, h2⟩
  · exact YS.val h1 h2
  · rw [hw] at h1; cases h1
/-- a call by a contract that says that memory has grown, where S bears growth -/
theorem YS.grow {o : Oper} {v : Value} {a : Act} {f : FuncId} {args : Array Value} (hw : Region.wanted o (yielded ops a.tmps) = true) (h : ∀ w, (execOp a.eval o).run P w = .ok (.enter f args) w)
    (hK : ∀ w w', S w → w.grownBy w' none → S w') (hc : ∀ w, Calls P f args w fun e w' => e = .returned v ∧ w.grownBy w' none) : YS P ops S o v a :=
  YS.call hw h fun w hS => (hc w).mono fun _ w' h => ⟨h.1, hK w w' hS h.2⟩
/-- a call that leaves the world alone -/
theorem YS.same {o : Oper} {v : Value} {a : Act} {f : FuncId} {args : Array Value} (hw : Region.wanted o (yielded ops a.tmps) = true) (h : ∀ w, (execOp a.eval o).run P w = .ok (.enter f args) w)
    (hc : ∀ w, Calls P f args w fun e w' => e = .returned v ∧ w = w') : YS P ops S o v a :=
  YS.call hw h fun w hS => (hc w).mono fun _ _ h => ⟨h.1, h.2 ▸ hS⟩
end

end Go.Proofs.Ytblgdfamomlklaa
/- A region that draws its order and ends in one operation that waits for all the others (a store): whatever the order, one end. -/
namespace Go.Proofs.Ytblgdfamomlklaa
open Go.RowKit

section
variable {P : Program} {ops : Array Oper} {Q : Exit → Act → World → Prop} {md : Region.Mode} {S : World → Prop} {L : Nat}

/-- whatever order is picked, from whatever world of which S holds; number L is the last -/
def wpT (P : Program) (md : Region.Mode) (ops : Array Oper) (Q : Exit → Act → World → Prop) (S : World → Prop) (L : Nat) : Nat → Array Bool → Act → Prop
  | 0, _, _ => False
  | n + 1, listed, a => Region.ready md ops listed ≠ [] ∧
    ∀ i ∈ Region.ready md ops listed, ∀ w, S w → wpOp P ops Q i (fun a' w' => if i = L then Region.ready md ops (listed.setIfInBounds i true) = [] ∧ Q .normal a' w' else S w' ∧ wpT P md ops Q S L n (listed.setIfInBounds i true) a') a w

theorem wpT_any : ∀ (n : Nat) (listed : Array Bool) (a : Act) (w : World), wpT P md ops Q S L n listed a → S w → wpAny P md ops Q n listed a w
  | 0, _, _, _, h, _ => h.elim
  | n + 1, listed, a, w, h, hS => by
    refine ⟨fun h0 => absurd h0 h.1, fun i hi => wpOp_mono (fun a' w' h' => ?_) (h.2 i hi w hS)⟩
    by_cases hL : i = L
    · rw [if_pos hL] at h'
      exact wpAny_done h'.1 h'.2 n
    · rw [if_neg hL] at h'
      exact wpT_any n _ a' w' h'.2 h'.1

/-- what has come up has what it waited for -/
def Closed (md : Region.Mode) (ops : Array Oper) (listed : Array Bool) : Prop := ∀ (j : Nat) (o : Oper), ops[j]? = some o → listed.getD j false = true → ∀ e ∈ o.after, Region.binds md e = true → listed.getD e.on false = true
def closedB (md : Region.Mode) (ops : Array Oper) (listed : Array Bool) : Bool := (List.range ops.size).all fun j => match ops[j]? with
  | some o => !listed.getD j false || o.after.all fun e => !Region.binds md e || listed.getD e.on false
  | none => true
theorem closed_of {listed : Array Bool} (h : closedB md ops listed = true) : Closed md ops listed := by
  intro j o ho hj e he hb
  have h1 := List.all_eq_true.1 h j (List.mem_range.2 (Array.getElem?_eq_some_iff.1 ho).1)
  simp only [ho, hj, Bool.not_true, Bool.false_or] at h1
  have h2 := Array.all_eq_true_iff_forall_mem.1 h1 e he
  simpa [hb] using h2
theorem Closed.set {listed : Array Bool} (h : Closed md ops listed) {j : Nat} (hj : j ∈ Region.ready md ops listed) : Closed md ops (listed.setIfInBounds j true) := by
  intro k o ho hk e he hb
  by_cases hkj : j = k
  · subst hkj
    obtain ⟨_, o', ho', hall⟩ := mem_ready.1 hj
    rw [ho] at ho'
    injection ho' with ho'
    subst ho'
    exact getD_set_true (hall e he hb)
  · rw [getD_set_ne false hkj] at hk
    exact getD_set_true (h k o ho hk e he hb)
/-- does i come ahead of L: directly, or by one between -/
def aheadB (md : Region.Mode) (ops : Array Oper) (oL : Oper) (i : Nat) : Bool := oL.after.any (fun e => Region.binds md e && e.on == i) || oL.after.any (fun e => Region.binds md e && (match ops[e.on]? with
  | some o => o.after.any (fun f => Region.binds md f && f.on == i)
  | none => false))
theorem ahead_listed {listed : Array Bool} {oL : Oper} {i : Nat} (hc : Closed md ops listed) (h : aheadB md ops oL i = true) (hall : ∀ e ∈ oL.after, Region.binds md e = true → listed.getD e.on false = true) : listed.getD i false = true := by
  unfold aheadB at h
  rw [Bool.or_eq_true] at h
  rcases h with h | h
  · obtain ⟨e, he, hb⟩ := Array.any_eq_true'.1 h
    simp only [Bool.and_eq_true, beq_iff_eq] at hb
    rw [← hb.2]
    exact hall e he hb.1
  · obtain ⟨e, he, hb⟩ := Array.any_eq_true'.1 h
    rw [Bool.and_eq_true] at hb
    have h1 := hall e he hb.1
    have h2 := hb.2
    cases ho : ops[e.on]? with
    | none => rw [ho] at h2; cases h2
    | some o =>
      rw [ho] at h2
      obtain ⟨f, hf, hfb⟩ := Array.any_eq_true'.1 h2
      simp only [Bool.and_eq_true, beq_iff_eq] at hfb
      rw [← hfb.2]
      exact hc e.on o ho h1 f hf hfb.1
theorem wpT_first {i : Nat} {oi oL : Oper} {v : Value} (hi : ops[i]? = some oi) (hoL : ops[L]? = some oL) (hiL : i ≠ L) (hLi : aheadB md ops oL i = true) (hsel : ∀ (j : Nat) (o : Oper) cs b, ops[j]? = some o → o.op ≠ .select cs b)
    (hQ : ∀ c a w, Q (.panic c) (a.put oi.dst v) w → Q (.panic c) a w) : ∀ (n : Nat) (listed : Array Bool) (a : Act), Closed md ops listed →
      (∀ j oj, ops[j]? = some oj → j ≠ i → listed.getD j true = false → (∀ e ∈ oj.after, Region.binds md e = true → e.on ≠ i) → oi.apart ops oj = true) →
      i ∈ Region.ready md ops listed → YS P ops S oi v a → wpT P md ops Q S L n (listed.setIfInBounds i true) (a.put oi.dst v) → wpT P md ops Q S L (n + 1) listed a := by
  intro n
  induction n with
  | zero => intro listed a _ _ _ _ H; exact H.elim
  | succ n ih =>
    intro listed a hcl hfree hr hy H
    refine ⟨fun h => (by rw [h] at hr; cases hr), fun j hj w hS => ?_⟩
    obtain ⟨hjun, oj, hoj, hall⟩ := mem_ready.1 hj
    have hnot : ∀ e ∈ oj.after, Region.binds md e = true → e.on ≠ i := by
      intro e he hb heq
      have h1 := hall e he hb
      have h0 := (mem_ready.1 hr).1
      rw [heq] at h1
      rcases Nat.lt_or_ge i listed.size with h' | h'
      · simp [h'] at h0 h1; rw [h0] at h1; cases h1
      · simp [Array.getElem?_eq_none h'] at h1
    by_cases hji : j = i
    · subst hji
      refine hy.op hi hS fun w' hs => ?_
      rw [if_neg hiL]
      exact ⟨hs, H⟩
    · have hjL : j ≠ L := by
        rintro rfl
        rw [hoL] at hoj
        injection hoj with hoj
        subst hoj
        have h1 := ahead_listed hcl hLi hall
        have h0 := (mem_ready.1 hr).1
        rcases Nat.lt_or_ge i listed.size with h' | h'
        · simp [h'] at h0 h1; rw [h0] at h1; cases h1
        · simp [Array.getElem?_eq_none h'] at h1
      have h1 := H.2 j (ready_mono hj hji) w hS
      have h2 := wpS_put hoj (hfree j oj hoj hji hjun hnot) (fun cs b => hsel i oi cs b hi) (fun cs b => hsel j oj cs b hoj) hQ hy h1
      refine wpOp_mono (fun a' w' h3 => ?_) h2
      rw [if_neg hjL] at h3 ⊢
      refine ⟨h3.2.1, ih (listed.setIfInBounds j true) a' (hcl.set hj) (fun k ok hk hki hun hno => ?_) (ready_mono hr (Ne.symm hji)) h3.1 ?_⟩
      · refine hfree k ok hk hki ?_ hno
        by_cases hjk : j = k
        · subst hjk; exact hjun
        · rw [getD_set_ne true hjk] at hun; exact hun
      · rw [Array.setIfInBounds_comm _ _ hji]
        exact h3.2.2

/-- number i first -/
theorem wpT_take (i : Nat) {oi oL : Oper} {v : Value} {n : Nat} {listed : Array Bool} {a : Act} (hi : ops[i]? = some oi) (hoL : ops[L]? = some oL) (hiL : (i == L) = false) (hLi : aheadB md ops oL i = true) (hcl : closedB md ops listed = true)
    (hs : Region.noSelect ops = true) (hf : Region.free md ops listed i = true) (hr : (Region.ready md ops listed).contains i = true)
    (hQ : ∀ c a w, Q (.panic c) (a.put oi.dst v) w → Q (.panic c) a w) (hy : YS P ops S oi v a)
    (h : wpT P md ops Q S L n (listed.setIfInBounds i true) (a.put oi.dst v)) : wpT P md ops Q S L (n + 1) listed a :=
  wpT_first hi hoL (by simpa using hiL) hLi (Region.noSelect_spec hs) hQ n listed a (closed_of hcl) (Region.free_spec hi hf) (by simpa using hr) hy h
/-- the last one, carried out -/
theorem wpT_last {oL : Oper} {n : Nat} {listed : Array Bool} {a : Act} (hoL : ops[L]? = some oL) (hr : Region.ready md ops listed = [L]) (hr2 : Region.ready md ops (listed.setIfInBounds L true) = []) (hw : Region.wanted oL (yielded ops a.tmps) = true)
    (h : ∀ w, S w → ∀ K : Act → World → Prop, (∀ a' w', Q .normal a' w' → K a' w') → oL.wp P a w K Q) : wpT P md ops Q S L (n + 1) listed a := by
  refine ⟨by rw [hr]; simp, fun i hi w hS => ?_⟩
  rw [hr] at hi
  obtain rfl : i = L := by simpa using hi
  unfold wpOp
  simp only [hoL, hw, if_true]
  exact .inl (h w hS _ fun a' w' hq => ⟨hr2, hq⟩)
theorem wp_regionT (S : World → Prop) (L : Nat) {id : Nat} {a : Act} {w : World} (hm : P.follows .mixedOrders = true) (hS : S w.drew)
    (h : wpT P .any ops Q S L ops.size (Array.replicate ops.size false) a) : (Code.region id ops true).wp P Q a w :=
  wp_region_any hm (wpT_any _ _ _ _ h hS)
end

end Go.Proofs.Ytblgdfamomlklaa
/- A region that draws its order, makes a variable of its own somewhere among calls that make memory, and ends in one store: whatever the order, one end. The condition on the world may grow stronger on the way. -/
namespace Go.Proofs.Ytblgdfamomlklaa
open Go.RowKit

/-- a condition that growth keeps -/
def Clo (S : World → Prop) : Prop := ∀ w w', S w → w.grownBy w' none → S w'
section
variable {P : Program} {ops : Array Oper} {Q : Exit → Act → World → Prop} {md : Region.Mode} {L : Nat}

def OutG (P : Program) (v : Value) (w : World) : Result Next → Prop
  | .ok (.value u) w' => u = v ∧ w.grownBy w' none
  | .ok .skip w' => v = undef ∧ w.grownBy w' none
  | .ok (.enter f args) w' => Calls P f args w' fun e w'' => e = .returned v ∧ w.grownBy w'' none
  | _ => False
def YG (P : Program) (ops : Array Oper) (S : World → Prop) (o : Oper) (v : Value) (a : Act) : Prop :=
  (Region.wanted o (yielded ops a.tmps) = true ∧ ∀ w, S w → OutG P v w ((execOp a.eval o).run P w)) ∨
  (Region.wanted o (yielded ops a.tmps) = false ∧ v = undef)
theorem YG.of {S : World → Prop} {o : Oper} {v : Value} {a a' : Act} (hy : YG P ops S o v a) (he : execOp a'.eval o = execOp a.eval o)
    (hw : Region.wanted o (yielded ops a'.tmps) = Region.wanted o (yielded ops a.tmps)) : YG P ops S o v a' := by
  unfold YG at *; rw [he, hw]; exact hy
theorem YG.sub {S S' : World → Prop} {o : Oper} {v : Value} {a : Act} (hy : YG P ops S o v a) (h : ∀ w, S' w → S w) : YG P ops S' o v a :=
  hy.imp (fun ⟨h1, h2⟩ => ⟨h1, fun w hw => h2 w (h w hw)⟩) id
theorem YG.op {S : World → Prop} {i : Nat} {o : Oper} {v : Value} {a : Act} (hi : ops[i]? = some o) (hy : YG P ops S o v a) {K : Act → World → Prop} {w : World} (hS : S w)
    (h : ∀ w', w.grownBy w' none → K (a.put o.dst v) w') : wpOp P ops Q i K a w := by
  unfold Go.wpOp
  simp only [hi]
  rcases hy with ⟨hw, hv⟩ | ⟨hw, rfl⟩
  · simp only [hw, if_true]
    refine .inl ?_
    have h1 := hv w hS
    unfold Oper.wp
    generalize (execOp a.eval o).run P w = r at h1 ⊢
    cases r with
    | ok n w' =>
      cases n with
      | value u => obtain ⟨rfl, hs⟩ := h1; exact h _ hs
      | skip => obtain ⟨rfl, hs⟩ := h1; exact h _ hs
      | enter f args =>
        simp only [OutG] at h1
        simp only [Oper.upon]
        refine Calls.mono h1 fun e w'' he => ?_
        obtain ⟨rfl, hs⟩ := he
        exact h _ hs
      | _ => exact h1.elim
    | halt x w' => exact h1.elim
  · simp only [hw, Bool.false_eq_true, if_false]; exact h _ (World.grownBy.refl _ _)

def wpX (P : Program) (md : Region.Mode) (ops : Array Oper) (Q : Exit → Act → World → Prop) (L : Nat) : Nat → (World → Prop) → Array Bool → Act → Prop
  | 0, _, _, _ => False
  | n + 1, S, listed, a => Region.ready md ops listed ≠ [] ∧
    ∀ i ∈ Region.ready md ops listed, ∀ w, S w → wpOp P ops Q i (fun a' w' => if i = L then Region.ready md ops (listed.setIfInBounds i true) = [] ∧ Q .normal a' w' else
      ∃ S' : World → Prop, S' w' ∧ (∀ w, S' w → S w) ∧ Clo S' ∧ wpX P md ops Q L n S' (listed.setIfInBounds i true) a') a w

theorem wpX_any : ∀ (n : Nat) (S : World → Prop) (listed : Array Bool) (a : Act) (w : World), wpX P md ops Q L n S listed a → S w → wpAny P md ops Q n listed a w
  | 0, _, _, _, _, h, _ => h.elim
  | n + 1, S, listed, a, w, h, hS => by
    refine ⟨fun h0 => absurd h0 h.1, fun i hi => wpOp_mono (fun a' w' h' => ?_) (h.2 i hi w hS)⟩
    by_cases hL : i = L
    · rw [if_pos hL] at h'
      exact wpAny_done h'.1 h'.2 n
    · rw [if_neg hL] at h'
      obtain ⟨S', hs, _, _, hw⟩ := h'
      exact wpX_any n S' _ a' w' hw hs

theorem wpX_put {S : World → Prop} {j : Nat} {oi oj : Oper} {v : Value} (hj : ops[j]? = some oj) (hap : oi.apart ops oj = true) (hsi : ∀ cs b, oi.op ≠ .select cs b) (hsj : ∀ cs b, oj.op ≠ .select cs b)
    (hQ : ∀ c a w, Q (.panic c) (a.put oi.dst v) w → Q (.panic c) a w) {K : Act → World → Prop} {a : Act} {w : World}
    (hy : YG P ops S oi v a) (h : wpOp P ops Q j K (a.put oi.dst v) w) : wpOp P ops Q j (fun a' w' => YG P ops S oi v a' ∧ K (a'.put oi.dst v) w') a w := by
  obtain ⟨h1, h2, h3⟩ := Oper.apart_spec hap
  have keep : ∀ (a : Act), YG P ops S oi v a → ∀ u, YG P ops S oi v (a.put oj.dst u) := fun a hy u => hy.of (execOp_put oi hsi a oj.dst u h3) (wanted_put oi a oj.dst u h3)
  unfold Go.wpOp at h ⊢
  simp only [hj] at h ⊢
  rw [wanted_put oj a oi.dst v h1] at h
  by_cases hw : Region.wanted oj (yielded ops a.tmps) = true
  · rw [if_pos hw] at h ⊢
    rcases h with h | ⟨hasks, hlets⟩
    · refine .inl ?_
      unfold Oper.wp at h ⊢
      rw [execOp_put oj hsj a oi.dst v h1] at h
      generalize (execOp a.eval oj).run P w = r at h ⊢
      cases r with
      | ok n w' =>
        cases n <;> simp only [Oper.upon] at h ⊢
        case value u => exact ⟨keep a hy u, by rw [← Act.put_comm a v u h2]; exact h⟩
        case skip => exact ⟨keep a hy _, by rw [← Act.put_comm a v undef h2]; exact h⟩
        case defer d =>
          refine ⟨keep { a with defers := d :: a.defers } (hy.of rfl rfl) _, ?_⟩
          rw [← Act.put_comm _ v undef h2, ← Act.put_defers]
          exact h
        case enter f args =>
          refine Calls.mono h fun e w'' he => ?_
          cases e with
          | returned u => exact ⟨keep a hy u, by rw [← Act.put_comm a v u h2]; exact he⟩
          | panicked c => exact hQ _ _ _ he
          | outgrown => exact he
        case row row args => exact Rows.mono h fun u w'' he => ⟨keep a hy u, by rw [← Act.put_comm a v u h2]; exact he⟩
      | halt x w' =>
        cases x <;> simp only [Oper.upon] at h ⊢
        case panic u => exact hQ _ _ _ h
    · exact .inr ⟨by unfold Oper.asks at hasks ⊢; rw [execOp_put oj hsj a oi.dst v h1] at hasks; exact hasks, hlets⟩
  · rw [if_neg hw] at h ⊢
    exact ⟨keep a hy _, by rw [← Act.put_comm a v undef h2]; exact h⟩

theorem wpX_first {i : Nat} {oi oL : Oper} {v : Value} (hi : ops[i]? = some oi) (hoL : ops[L]? = some oL) (hiL : i ≠ L) (hLi : aheadB md ops oL i = true) (hsel : ∀ (j : Nat) (o : Oper) cs b, ops[j]? = some o → o.op ≠ .select cs b)
    (hQ : ∀ c a w, Q (.panic c) (a.put oi.dst v) w → Q (.panic c) a w) : ∀ (n : Nat) (S : World → Prop) (listed : Array Bool) (a : Act), Clo S → Closed md ops listed →
      (∀ j oj, ops[j]? = some oj → j ≠ i → listed.getD j true = false → (∀ e ∈ oj.after, Region.binds md e = true → e.on ≠ i) → oi.apart ops oj = true) →
      i ∈ Region.ready md ops listed → YG P ops S oi v a → wpX P md ops Q L n S (listed.setIfInBounds i true) (a.put oi.dst v) → wpX P md ops Q L (n + 1) S listed a := by
  intro n
  induction n with
  | zero => intro S listed a _ _ _ _ _ H; exact H.elim
  | succ n ih =>
    intro S listed a hclo hcl hfree hr hy H
    refine ⟨fun h => (by rw [h] at hr; cases hr), fun j hj w hS => ?_⟩
    obtain ⟨hjun, oj, hoj, hall⟩ := mem_ready.1 hj
    have hnot : ∀ e ∈ oj.after, Region.binds md e = true → e.on ≠ i := by
      intro e he hb heq
      have h1 := hall e he hb
      have h0 := (mem_ready.1 hr).1
      rw [heq] at h1
      rcases Nat.lt_or_ge i listed.size with h' | h'
      · simp [h'] at h0 h1; rw [h0] at h1; cases h1
      · simp [Array.getElem?_eq_none h'] at h1
    by_cases hji : j = i
    · subst hji
      refine hy.op hi hS fun w' hg => ?_
      rw [if_neg hiL]
      exact ⟨S, hclo w w' hS hg, fun _ h => h, hclo, H⟩
    · have hjL : j ≠ L := by
        rintro rfl
        rw [hoL] at hoj
        injection hoj with hoj
        subst hoj
        have h1 := ahead_listed hcl hLi hall
        have h0 := (mem_ready.1 hr).1
        rcases Nat.lt_or_ge i listed.size with h' | h'
        · simp [h'] at h0 h1; rw [h0] at h1; cases h1
        · simp [Array.getElem?_eq_none h'] at h1
      have h1 := H.2 j (ready_mono hj hji) w hS
      have h2 := wpX_put hoj (hfree j oj hoj hji hjun hnot) (fun cs b => hsel i oi cs b hi) (fun cs b => hsel j oj cs b hoj) hQ hy h1
      refine wpOp_mono (fun a' w' h3 => ?_) h2
      rw [if_neg hjL] at h3 ⊢
      obtain ⟨hya, S', hs', hsub, hclo', hwx⟩ := h3
      refine ⟨S', hs', hsub, hclo', ih S' (listed.setIfInBounds j true) a' hclo' (hcl.set hj) (fun k ok hk hki hun hno => ?_) (ready_mono hr (Ne.symm hji)) (hya.sub hsub) ?_⟩
      · refine hfree k ok hk hki ?_ hno
        by_cases hjk : j = k
        · subst hjk; exact hjun
        · rw [getD_set_ne true hjk] at hun; exact hun
      · rw [Array.setIfInBounds_comm _ _ hji]
        exact hwx

/-- number i first -/
theorem wpX_take (i : Nat) {S : World → Prop} {oi oL : Oper} {v : Value} {n : Nat} {listed : Array Bool} {a : Act} (hclo : Clo S) (hi : ops[i]? = some oi) (hoL : ops[L]? = some oL) (hiL : (i == L) = false) (hLi : aheadB md ops oL i = true) (hcl : closedB md ops listed = true)
    (hs : Region.noSelect ops = true) (hf : Region.free md ops listed i = true) (hr : (Region.ready md ops listed).contains i = true)
    (hQ : ∀ c a w, Q (.panic c) (a.put oi.dst v) w → Q (.panic c) a w) (hy : YG P ops S oi v a)
    (h : wpX P md ops Q L n S (listed.setIfInBounds i true) (a.put oi.dst v)) : wpX P md ops Q L (n + 1) S listed a :=
  wpX_first hi hoL (by simpa using hiL) hLi (Region.noSelect_spec hs) hQ n S listed a hclo (closed_of hcl) (Region.free_spec hi hf) (by simpa using hr) hy h
/-- the one that may come up alone is carried out; the condition may grow stronger -/
theorem wpX_step (k : Nat) {S : World → Prop} {o : Oper} {n : Nat} {listed : Array Bool} {a : Act} (ho : ops[k]? = some o) (hkL : (k == L) = false) (hr : Region.ready md ops listed = [k]) (hw : Region.wanted o (yielded ops a.tmps) = true)
    (h : ∀ w, S w → ∀ K : Act → World → Prop, (∀ (S' : World → Prop) a' w', S' w' → (∀ w, S' w → S w) → Clo S' → wpX P md ops Q L n S' (listed.setIfInBounds k true) a' → K a' w') → o.wp P a w K Q) : wpX P md ops Q L (n + 1) S listed a := by
  refine ⟨by rw [hr]; simp, fun i hi w hS => ?_⟩
  rw [hr] at hi
  obtain rfl : i = k := by simpa using hi
  have hne : i ≠ L := by simpa using hkL
  unfold wpOp
  simp only [ho, hw, if_true]
  refine .inl (h w hS _ fun S' a' w' h1 h2 h3 h4 => ?_)
  rw [if_neg hne]
  exact ⟨S', h1, h2, h3, h4⟩
/-- the last one, carried out -/
theorem wpX_last {S : World → Prop} {oL : Oper} {n : Nat} {listed : Array Bool} {a : Act} (hoL : ops[L]? = some oL) (hr : Region.ready md ops listed = [L]) (hr2 : Region.ready md ops (listed.setIfInBounds L true) = []) (hw : Region.wanted oL (yielded ops a.tmps) = true)
    (h : ∀ w, S w → ∀ K : Act → World → Prop, (∀ a' w', Q .normal a' w' → K a' w') → oL.wp P a w K Q) : wpX P md ops Q L (n + 1) S listed a := by
  refine ⟨by rw [hr]; simp, fun i hi w hS => ?_⟩
  rw [hr] at hi
  obtain rfl : i = L := by simpa using hi
  unfold wpOp
  simp only [hoL, hw, if_true]
  refine .inl (h w hS _ fun a' w' hq => ?_)
  exact ⟨hr2, hq⟩
theorem wp_regionX (S : World → Prop) (L : Nat) {id : Nat} {a : Act} {w : World} (hm : P.follows .mixedOrders = true) (hS : S w.drew)
    (h : wpX P .any ops Q L ops.size S (Array.replicate ops.size false) a) : (Code.region id ops true).wp P Q a w :=
  wp_region_any hm (wpX_any _ _ _ _ _ h hS)

theorem YG.val {S : World → Prop} {o : Oper} {v : Value} {a : Act} (hw : Region.wanted o (yielded ops a.tmps) = true) (h : ∀ w, S w → (execOp a.eval o).run P w = .ok (.value v) w) : YG P ops S o v a :=
  .inl ⟨hw, fun w hS => by rw [h w hS]; exact ⟨rfl, World.grownBy.refl _ _⟩⟩
theorem YG.call {S : World → Prop} {o : Oper} {v : Value} {a : Act} {f : FuncId} {args : Array Value} (hw : Region.wanted o (yielded ops a.tmps) = true) (h : ∀ w, (execOp a.eval o).run P w = .ok (.enter f args) w)
    (hc : ∀ w, S w → Calls P f args w fun e w' => e = .returned v ∧ w.grownBy w' none) : YG P ops S o v a :=
  .inl ⟨hw, fun w hS => by rw [h w]; exact hc w hS⟩
theorem YG.row {S : World → Prop} {o : Oper} {a : Act} (hw : Region.wanted o (yielded ops a.tmps) = true) (ty : TypeId) (x : Operand) (ho : o.op = .load ty x)
    (b f : Nat) (hx : a.eval x = .pointer (some ⟨b, f, none⟩)) (cs : List Value) (d : TypeDesc) (hS : ∀ w, S w → w.rangeAt b f cs)
    (hu : P.underlying ty = some d) (hd : d.isRow = true) (hi : (P.info? ty).map (·.size) = some cs.length) : YG P ops S o (.agg cs.toArray) a := by
  rcases yieldsIf_load_mid (P := P) (ops := ops) hw ty x ho b f hx cs d hS hu hd hi with ⟨h1, h2⟩ | ⟨h1, h2⟩
  · exact YG.val h1 h2
  · rw [hw] at h1; cases h1
end

end Go.Proofs.Ytblgdfamomlklaa
/- A fresh variable of several cells that is written whole at once; rows that stand. -/
namespace Go.Proofs.Ytblgdfamomlklaa
open Go.RowKit

/-- block g holds exactly the cells cs of a variable of type t -/
def Row (w : World) (g : Nat) (t : TypeId) (cs : Array Value) : Prop := w.heap[g]? = some (.cells cs t (0, 0))
theorem Row.lt {w : World} {g : Nat} {t : TypeId} {cs : Array Value} (h : Row w g t cs) : g < w.heap.size := (Array.getElem?_eq_some_iff.1 h).1
theorem Row.grown {w w' : World} {g : Nat} {t : TypeId} {cs : Array Value} (h : Row w g t cs) (hg : w.grownBy w' none) : Row w' g t cs :=
  (hg.block g h.lt (by simp)).trans h
theorem Row.grownNe {w w' : World} {g g' : Nat} {t : TypeId} {cs : Array Value} (h : Row w g t cs) (hg : w.grownBy w' (some g')) (hne : g ≠ g') : Row w' g t cs :=
  (hg.block g h.lt (by simpa using hne)).trans h
theorem Row.cell {w : World} {g : Nat} {t : TypeId} {cs : Array Value} (h : Row w g t cs) (k : Nat) : w.cell? ⟨g, k, none⟩ = cs[k]? := by
  unfold Row at h
  simp [World.cell?, h]

theorem Row.setc {w : World} {g : Nat} {t : TypeId} {cs : Array Value} (h : Row w g t cs) (k : Nat) (v : Value) : Row (w.setCell ⟨g, k, none⟩ v) g t (cs.setIfInBounds k v) := by
  unfold Row at h ⊢
  simp only [World.setCell, Array.getElem?_modify, ↓reduceIte, h, Option.map_some]
  simp
theorem Row.frozen {w : World} {g : Nat} {t : TypeId} {cs : Array Value} (h : Row w g t cs) (k : Nat) : w.frozen? ⟨g, k, none⟩ = false := by
  unfold Row at h
  simp [World.frozen?, h]

section
variable {P : Program}

theorem run_alloc_op (w : World) (ev : Operand → Value) {o : Oper} {T : TypeId} (ho : o.op = .alloc T) {i : TypeInfo} (hi : P.info? T = some i) {z : Value} (hz : i.zero = some z) :
    (execOp ev o).run P w = .ok (.value (.pointer (some ⟨w.heap.size, 0, none⟩))) (w.alloc (.cells z.cells T)) := by
  unfold execOp
  simp [ho, Instr.alloc, zeroValue, typeInfo, hi, hz, newVar, newRow]

theorem run_box_op (w : World) (ev : Operand → Value) {o : Oper} {T : TypeId} {x : Operand} (ho : o.op = .box T x) :
    (execOp ev o).run P w = .ok (.value (.pointer (some ⟨w.heap.size, 0, none⟩))) (w.alloc (.cells (ev x).cells T)) := by
  unfold execOp
  simp [ho, Instr.box, newVar, newRow]

theorem wpList_fresh {ops : Array Oper} {rest : List Oper} {o1 o2 : Oper} {a : Act} {w : World} {Q : Exit → Act → World → Prop} (hg1 : o1.guard = none) (hg2 : o2.guard = none) {T : TypeId} {d : Tmp} {x : Operand}
    (ho1 : o1.op = .alloc T) (hd : o1.dst = some d) (ho2 : o2.op = .store T (.tmp d) x) {i : TypeInfo} (hi : P.info? T = some i) {z : Value} (hz : i.zero = some z) (hsz : i.size = z.cells.size)
    (cs : Array Value) (hp : (a.put (some d) (.pointer (some ⟨w.heap.size, 0, none⟩))).eval (.tmp d) = .pointer (some ⟨w.heap.size, 0, none⟩)) (hx : (a.put (some d) (.pointer (some ⟨w.heap.size, 0, none⟩))).eval x = .agg cs)
    (hcs : z.cells.size = cs.size) (h1 : cs.all (·.oneCell') = true)
    (h : ∀ W, W.heap.size = w.heap.size + 1 → w.grownBy W none → Row W w.heap.size T cs → wpList P ops Q rest ((a.put (some d) (.pointer (some ⟨w.heap.size, 0, none⟩))).put o2.dst undef) W) :
    wpList P ops Q (o1 :: o2 :: rest) a w := by
  refine wpList_plain hg1 fun K hK => ?_
  unfold Oper.wp
  rw [run_alloc_op w a.eval ho1 hi hz, Oper.upon_value]
  refine hK _ _ ?_
  rw [hd]
  have hrow : (w.alloc (.cells z.cells T)).heap[w.heap.size]? = some (.cells z.cells T (0, 0)) := heap_alloc_new w _
  refine wpList_store_row hg2 T (.tmp d) x ho2 w.heap.size cs hp hx T z.cells hrow (by rw [hi]; simp [hsz, hcs]) hcs h1 ?_
  refine h _ (by simp) ?_ (setRow_heap _ _ _ _ _ _ hrow)
  exact grownBy_old (World.grownBy_alloc w (.cells z.cells T) none) (grownBy_setRow _ w.heap.size cs) (Nat.le_refl _)

theorem wpList_made {ops : Array Oper} {rest : List Oper} {o1 : Oper} {a : Act} {w : World} {Q : Exit → Act → World → Prop} (hg1 : o1.guard = none) {T : TypeId} (ho1 : o1.op = .alloc T) {i : TypeInfo} (hi : P.info? T = some i) {z : Value} (hz : i.zero = some z)
    (h : ∀ W, W.heap.size = w.heap.size + 1 → w.grownBy W none → Row W w.heap.size T z.cells → wpList P ops Q rest (a.put o1.dst (.pointer (some ⟨w.heap.size, 0, none⟩))) W) : wpList P ops Q (o1 :: rest) a w := by
  refine wpList_plain hg1 fun K hK => ?_
  unfold Oper.wp
  rw [run_alloc_op w a.eval ho1 hi hz, Oper.upon_value]
  exact hK _ _ (h _ (by simp) (World.grownBy_alloc w (.cells z.cells T) none) (heap_alloc_new w _))

theorem wpList_putrow {ops : Array Oper} {rest : List Oper} {o : Oper} {a : Act} {w : World} {Q : Exit → Act → World → Prop} (hg : o.guard = none) {T : TypeId} {x y : Operand} (ho : o.op = .store T x y)
    (g : Nat) (hx : a.eval x = .pointer (some ⟨g, 0, none⟩)) (cs : Array Value) (hy : a.eval y = .agg cs) {old : Array Value} (hr : Row w g T old) (hi : (P.info? T).map (·.size) = some cs.size) (hold : old.size = cs.size) (h1 : cs.all (·.oneCell') = true)
    (h : ∀ W, w.grownBy W (some g) → Row W g T cs → wpList P ops Q rest (a.put o.dst undef) W) : wpList P ops Q (o :: rest) a w :=
  wpList_store_row hg T x y ho g cs hx hy T old hr hi hold h1 (h _ (grownBy_setRow _ _ _) (setRow_heap _ _ _ _ _ _ hr))

theorem wpList_boxed {ops : Array Oper} {rest : List Oper} {o : Oper} {a : Act} {w : World} {Q : Exit → Act → World → Prop} (hg : o.guard = none) {T : TypeId} {x : Operand} (ho : o.op = .box T x)
    (cs : Array Value) (hx : a.eval x = .agg cs)
    (h : ∀ W, W.heap.size = w.heap.size + 1 → w.grownBy W none → Row W w.heap.size T cs → wpList P ops Q rest (a.put o.dst (.pointer (some ⟨w.heap.size, 0, none⟩))) W) :
    wpList P ops Q (o :: rest) a w := by
  refine wpList_plain hg fun K hK => ?_
  unfold Oper.wp
  rw [run_box_op w a.eval ho, Oper.upon_value, hx]
  refine hK _ _ ?_
  exact h _ (by simp) (World.grownBy_alloc w (.cells cs T) none) (heap_alloc_new w (.cells cs T))

end

section
variable {P : Program}
theorem run_load_op (w : World) (ev : Operand → Value) {o : Oper} (ty : TypeId) (x : Operand) (ho : o.op = .load ty x) (g : Nat) (hx : ev x = .pointer (some ⟨g, 0, none⟩)) (t : TypeId) (cs : Array Value) {d : TypeDesc} (hg : Row w g t cs)
    (hu : P.underlying ty = some d) (hd : (match d with | .struct _ | .array _ _ => true | _ => false) = true) (hi : (P.info? ty).map (·.size) = some cs.size) : (execOp ev o).run P w = .ok (.value (.agg cs)) w := by
  unfold execOp
  simp only [ho, hx, Instr.loadAt, Instr.sureAddr, Sem.run_bind, Sem.run_pure, Result.andThen_ok, run_loadVar_row w g t ty cs (0, 0) d hg hu hd hi]
theorem run_eql_op (w : World) (ev : Operand → Value) {o : Oper} {t ty : TypeId} (hgu : P.eqGuardType P.depth t = false) {x y : Operand} (ho : o.op = .binOp .eql t x y ty) (xs ys : Array Value) (hx : ev x = .agg xs) (hy : ev y = .agg ys) {v : Value} (h : (binOp .eql t (.agg xs) (.agg ys)).run P w = .ok v w) : (execOp ev o).run P w = .ok (.value v) w := by
  unfold execOp
  simp [ho, hx, hy, run_eqGuard_agg w .eql t x y xs ys hgu, h]
end

end Go.Proofs.Ytblgdfamomlklaa
/- Variables of one cell that lie in memory: each a letter for the world; rows of bytes; rows of zeros that are made. -/
namespace Go.Proofs.Ytblgdfamomlklaa
open Go.RowKit

theorem cells_one {v : Value} (h : v.oneCell' = true) : v.cells = #[v] := by cases v <;> first | rfl | cases h

section
variable {P : Program} {ops : Array Oper} {rest : List Oper} {a : Act} {w : World} {Q : Exit → Act → World → Prop}

theorem wpList_fresh1 {o1 o2 : Oper} (hg1 : o1.guard = none) (hg2 : o2.guard = none) {T : TypeId} {d : Tmp} {x : Operand}
    (ho1 : o1.op = .alloc T) (hd : o1.dst = some d) (ho2 : o2.op = .store T (.tmp d) x) {i : TypeInfo} (hi : P.info? T = some i) {z : Value} (hz : i.zero = some z) (hsz : i.size = 1) (hz1 : z.oneCell' = true)
    (v : Value) (hp : (a.put (some d) (.pointer (some ⟨w.heap.size, 0, none⟩))).eval (.tmp d) = .pointer (some ⟨w.heap.size, 0, none⟩)) (hx : (a.put (some d) (.pointer (some ⟨w.heap.size, 0, none⟩))).eval x = v)
    (h1 : v.oneCell' = true)
    (h : ∀ W, W.heap.size = w.heap.size + 1 → w.grownBy W none → Row W w.heap.size T #[v] → wpList P ops Q rest ((a.put (some d) (.pointer (some ⟨w.heap.size, 0, none⟩))).put o2.dst undef) W) :
    wpList P ops Q (o1 :: o2 :: rest) a w := by
  refine wpList_plain hg1 fun K hK => ?_
  unfold Oper.wp
  rw [run_alloc_op w a.eval ho1 hi hz, Oper.upon_value, cells_one hz1]
  refine hK _ _ ?_
  rw [hd]
  have hrow : (w.alloc (.cells #[z] T)).heap[w.heap.size]? = some (.cells #[z] T (0, 0)) := heap_alloc_new w _
  refine wpList_store_one hg2 T (.tmp d) x ho2 w.heap.size hp (by rw [hx]; exact h1) T z hrow (by rw [hi]; simp [hsz]) ?_
  rw [hx]
  refine h _ (by simp) ?_ (setRow_heap _ _ _ _ _ _ hrow)
  exact grownBy_old (World.grownBy_alloc w (.cells #[z] T) none) (grownBy_setRow _ w.heap.size #[v]) (Nat.le_refl _)

theorem wpList_put1 {o : Oper} (hg : o.guard = none) {T : TypeId} {x y : Operand} (ho : o.op = .store T x y)
    (g : Nat) (hx : a.eval x = .pointer (some ⟨g, 0, none⟩)) (v : Value) (hy : a.eval y = v) {old : Value} (hr : Row w g T #[old]) (hi : (P.info? T).map (·.size) = some 1) (h1 : v.oneCell' = true)
    (h : ∀ W, W.heap.size = w.heap.size → w.grownBy W (some g) → Row W g T #[v] → wpList P ops Q rest (a.put o.dst undef) W) : wpList P ops Q (o :: rest) a w := by
  refine wpList_store_one hg T x y ho g hx (by rw [hy]; exact h1) T old hr hi ?_
  rw [hy]
  exact h _ (by simp) (grownBy_setRow _ _ _) (setRow_heap _ _ _ _ _ _ hr)

theorem wpList_box1 {o : Oper} (hg : o.guard = none) {T : TypeId} {x : Operand} (ho : o.op = .box T x)
    (v : Value) (hx : a.eval x = v) (h1 : v.oneCell' = true)
    (h : ∀ W, W.heap.size = w.heap.size + 1 → w.grownBy W none → Row W w.heap.size T #[v] → wpList P ops Q rest (a.put o.dst (.pointer (some ⟨w.heap.size, 0, none⟩))) W) :
    wpList P ops Q (o :: rest) a w := by
  refine wpList_plain hg fun K hK => ?_
  unfold Oper.wp
  rw [run_box_op w a.eval ho, Oper.upon_value, hx, cells_one h1]
  refine hK _ _ ?_
  exact h _ (by simp) (World.grownBy_alloc w (.cells #[v] T) none) (heap_alloc_new w (.cells #[v] T))

end

/-- bytes as cells -/
def rowB (l : List UInt8) : Array Value := (l.map bval).toArray
theorem rowB_size (l : List UInt8) : (rowB l).size = l.length := by simp [rowB]
/-- the block g holds these bytes, and nothing else -/
def BRow (w : World) (g : Nat) (t : TypeId) (l : List UInt8) : Prop := Row w g t (rowB l)
section
variable {w w' : World} {g : Nat} {t : TypeId} {l : List UInt8}
theorem BRow.lt (h : BRow w g t l) : g < w.heap.size := Row.lt h
theorem BRow.cell (h : BRow w g t l) (k : Nat) (hk : k < l.length) : w.cell? ⟨g, k, none⟩ = some (.int .u8 ((l.getD k 0).toNat : Int)) := by
  rw [Row.cell h k]
  simp [rowB, hk, bval]
theorem BRow.frozen (h : BRow w g t l) (k : Nat) : w.frozen? ⟨g, k, none⟩ = false := Row.frozen h k
theorem BRow.set (h : BRow w g t l) (k : Nat) (x : UInt8) : BRow (w.setCell ⟨g, k, none⟩ (.int .u8 (x.toNat : Int))) g t (l.set k x) := by
  have h' := Row.setc h k (.int .u8 (x.toNat : Int))
  unfold BRow
  rw [show rowB (l.set k x) = (rowB l).setIfInBounds k (.int .u8 (x.toNat : Int)) by unfold rowB; rw [List.map_set, ← List.setIfInBounds_toArray]; rfl]
  exact h'
theorem BRow.grown (h : BRow w g t l) (hg : w.grownBy w' none) : BRow w' g t l := Row.grown h hg
theorem BRow.grownNe {g' : Nat} (h : BRow w g t l) (hg : w.grownBy w' (some g')) (hne : g ≠ g') : BRow w' g t l := Row.grownNe h hg hne
theorem BRow.lies (h : BRow w g t l) : BLies w (some ⟨g, 0, none⟩) l := by
  intro k hk
  refine ⟨g, 0, rfl, ?_⟩
  rw [Nat.zero_add, BRow.cell h k hk]
  simp [hk]
theorem BRow.own (h : BRow w g t l) {base : Nat} (hb : base ≤ g) (n : Nat) (hn : l.length = n) (hm : n ≤ maxLen) : Own w base t 1 (some ⟨g, 0, none⟩) n n (l.map bval) := by
  subst hn
  exact ⟨by simp, .inr ⟨g, rowB l, rfl, hb, h, Nat.le_refl _, hm, by simp [rowB], by simp [rowB, List.take_of_length_le]⟩⟩
end
theorem BRow.ownTake {w : World} {g : Nat} {t : TypeId} {l : List UInt8} (h : BRow w g t l) {base : Nat} (hb : base ≤ g) (k n : Nat) (hn : l.length = n) (hk : k ≤ n) (hm : n ≤ maxLen) : Own w base t 1 (some ⟨g, 0, none⟩) k n ((l.take k).map bval) := by
  subst hn
  exact ⟨by simp [hk], .inr ⟨g, rowB l, rfl, hb, h, hk, hm, by simp [rowB], by simp [rowB]⟩⟩

section
variable {P : Program} {ops : Array Oper} {rest : List Oper} {a : Act} {w : World} {Q : Exit → Act → World → Prop}
theorem madeCells_u8 (n : Nat) : madeCells #[.int .u8 0] n = rowB (List.replicate n 0) := by
  apply Array.toList_inj.1
  simp [madeCells, rowB]
  apply List.ext_getElem
  · simp
  · intro i h1 h2
    simp [Nat.mod_one, bval]
theorem wpList_mkB {o : Oper} (hg : o.guard = none) (l c : Operand) (t : TypeId) (hop : o.op = Op.makeSlice t l c) (e : TypeId) {i : TypeInfo} (ht : P.underlying t = some (.slice e)) (hi : P.info? e = some i) (hz : i.zero = some (.int .u8 0)) (hsize : i.size = 1) (hby : i.bytes = 1)
    (n : Nat) (hl : a.eval l = .int .i64 (n : Int)) (hc : a.eval c = .int .i64 (n : Int)) (hn : n ≤ 281474976710656)
    (h : ∀ W, W.heap.size = w.heap.size + 1 → w.grownBy W none → BRow W w.heap.size e (List.replicate n 0) → wpList P ops Q rest (a.put o.dst (.slice (some ⟨w.heap.size, 0, none⟩) n n)) W) :
    wpList P ops Q (o :: rest) a w := by
  refine wpList_make_row w hg l c t hop e i (.int .u8 0) ht hi hz hsize rfl .i64 .i64 n hl hc (by rw [hby]; omega) (by omega) ?_
  rw [madeCells_u8]
  exact h _ (by simp) (World.grownBy_alloc w _ none) (heap_alloc_new w _)
end

end Go.Proofs.Ytblgdfamomlklaa
/- What a stretch of a walk may change: Ch, for rows that are owned, boxes, bytes that are read. -/
namespace Go.Proofs.Ytblgdfamomlklaa
open Go.RowKit

theorem Ch.ofNone {w w' : World} (h : w.grownBy w' none) (S : Nat → Prop) : Ch S w w' := ⟨h.os, h.tape, h.output, h.size, fun k hk _ => h.block k hk (by simp)⟩
theorem Ch.ofSome {w w' : World} {g : Nat} (h : w.grownBy w' (some g)) {S : Nat → Prop} (hS : S g) : Ch S w w' :=
  ⟨h.os, h.tape, h.output, h.size, fun k hk hn => h.block k hk (by simp only [ne_eq, Option.some.injEq]; intro e; exact hn (e ▸ hS))⟩
theorem Ch.then {S : Nat → Prop} {a b c : World} (h : Ch S a b) (k : b.grownBy c none) : Ch S a c := h.trans (Ch.ofNone k S) (fun _ _ h => h)
theorem Ch.mono {S T : Nat → Prop} {a b : World} (h : Ch S a b) (hT : ∀ g, g < a.heap.size → S g → T g) : Ch T a b := ⟨h.os, h.tape, h.output, h.size, fun k hk hn => h.block k hk (fun hs => hn (hT k hk hs))⟩
theorem Ch.fresh {S : Nat → Prop} {w0 w w' : World} (hg : w0.grownBy w none) (h : Ch S w w') (hS : ∀ g, g < w0.heap.size → ¬ S g) : w0.grownBy w' none :=
  ⟨h.os.trans hg.os, h.tape.trans hg.tape, h.output.trans hg.output, Nat.le_trans hg.size h.size, fun k hk _ => (h.block k (Nat.lt_of_lt_of_le hk hg.size) (hS k hk)).trans (hg.block k hk (by simp))⟩
theorem Ch.some' {w w' : World} {g : Nat} {S : Nat → Prop} (h : Ch S w w') (hS : ∀ k, k < w.heap.size → S k → k = g) : w.grownBy w' (some g) :=
  ⟨h.os, h.tape, h.output, h.size, fun k hk hn => h.block k hk (fun hs => hn (by rw [hS k hk hs]))⟩
theorem Own.ch {S : Nat → Prop} {w w' : World} {base : Nat} {e : TypeId} {size : Nat} {a : Option Addr} {n c : Nat} {xs : List Value} (h : Own w base e size a n c xs) (hc : Ch S w w') (hS : 0 < c → ∀ g, a = some ⟨g, 0, none⟩ → ¬ S g) : Own w' base e size a n c xs :=
  h.kept' fun h0 g e hl => hc.block g hl (hS h0 g e)
theorem Row.ch {S : Nat → Prop} {w w' : World} {g : Nat} {t : TypeId} {cs : Array Value} (h : Row w g t cs) (hc : Ch S w w') (hS : ¬ S g) : Row w' g t cs := (hc.block g h.lt hS).trans h
theorem BLies.ch {S : Nat → Prop} {w w' : World} {a : Option Addr} {l : List UInt8} (h : BLies w a l) (hc : Ch S w w') (hS : ∀ b off, a = some ⟨b, off, none⟩ → ¬ S b) : BLies w' a l :=
  h.heap fun b off e hl => hc.block b hl (hS b off e)
/-- the block of what is owned -/
def In (a : Option Addr) (c : Nat) (g : Nat) : Prop := 0 < c ∧ a = some ⟨g, 0, none⟩
theorem Own.inn {w : World} {base : Nat} {e : TypeId} {size : Nat} {a : Option Addr} {n c : Nat} {xs : List Value} (h : Own w base e size a n c xs) {g : Nat} (hi : In a c g) : base ≤ g ∧ g < w.heap.size := by
  obtain ⟨g', e1, h1, h2⟩ := Own.block h hi.1
  rw [hi.2] at e1; injection e1 with e1; injection e1 with e1
  omega
/-- an append is a change of its own block alone -/
theorem GrewP.ch {w w1 : World} {a : Option Addr} {c : Nat} {a' : Option Addr} {c' : Nat} (h : GrewP w w1 a c a' c') : Ch (In a c) w w1 := by
  rcases h with ⟨g, rfl, rfl, hc, _, hg⟩ | ⟨g, _, _, hg⟩
  · exact Ch.ofSome hg ⟨hc, rfl⟩
  · exact Ch.ofNone hg _
/-- the block behind an append: the same, or a new one -/
theorem GrewP.inn {w w1 : World} {a : Option Addr} {c : Nat} {a' : Option Addr} {c' : Nat} (h : GrewP w w1 a c a' c') {g : Nat} (hi : In a' c' g) : In a c g ∨ w.heap.size ≤ g := by
  rcases h with ⟨g', e, rfl, hc, rfl, hg⟩ | ⟨g', e, hge, hg⟩
  · exact .inl hi
  · rw [e] at hi
    obtain ⟨_, h2⟩ := hi
    injection h2 with h2; injection h2 with h2
    subst h2
    exact .inr hge

end Go.Proofs.Ytblgdfamomlklaa
/- A range over a function whose iterator makes memory for what it tells: the round is told what lies in that memory. And: a region that draws its order, in a round. -/
namespace Go.Proofs.Ytblgdfamomlklaa
open Go.RowKit Go.Shelf

/-- cells that lay lie as they lay -/
structure KeptC (W W' : World) : Prop where
  size : W.heap.size ≤ W'.heap.size
  same : ∀ (k : Nat) (o : Obj), W.heap[k]? = some o → o.isCells = true → W'.heap[k]? = some o
theorem KeptC.refl (W : World) : KeptC W W := ⟨Nat.le_refl _, fun _ _ h _ => h⟩
theorem KeptC.put {W W' : World} (h : KeptC W W') (l : Nat) {o : Obj} (o' : Obj) (hl : W'.heap[l]? = some o) (ho : o.isCells = false) : KeptC W (W'.putObj l o') :=
  ⟨Nat.le_trans h.size (grownBy_putObj' W' l o').size, fun k o2 hk h2 => by
    have h3 := h.same k o2 hk h2
    by_cases e : k = l
    · subst e; rw [hl] at h3; injection h3 with h3; subst h3; rw [ho] at h2; cases h2
    · exact (World.putObj_heap_other (by omega)).trans h3⟩
theorem KeptC.of {W W' : World} (h : W.grownBy W' none) : KeptC W W' := ⟨h.size, fun k o hk _ => (h.block k (Array.getElem?_eq_some_iff.1 hk).1 (by simp)).trans hk⟩

/-- what an iterator does that tells each round what it has made for it: W0 the world ahead of the making, W1 behind -/
def SeqOk {α : Type} (F : Fence) (n : Nat) (P : Program) (g : Nat) (lb : Array Value) (encs : α → Array Value) (Kp : World → World → Prop) (Ok : List α → α → World → World → Prop) (S Sp : List α → Prop) (w : World) : Prop :=
  ∀ (l : Nat) (J Jx : List α → World → Prop) (W : World), Below w.heap.size w W → AbidesFrom W.heap.size J → AbidesFrom W.heap.size Jx →
    (∀ pre x W0 W1, J pre W0 → J pre W1 → KeptC W0 W1 → Ok pre x W0 W1 → YieldAt F (n - 1) P l (encs x) W1 fun e W' =>
      (e = .returned (.bool true) ∧ J (pre ++ [x]) W' ∧ Kp W1 W') ∨ (e = .returned (.bool false) ∧ Jx (pre ++ [x]) W')) →
    J [] W →
    CallsIn F n P g (#[.func (.yield l) #[] #[]] ++ lb) W fun e W' => (∃ v, e = .returned v) ∧ ((∃ xs, S xs ∧ J xs W') ∨ (∃ pre, Sp pre ∧ Jx pre W'))

variable {F : Fence} {n : Nat} {P : Program}

set_option maxHeartbeats 1000000 in
/-- the caller's law -/
theorem wpIn_rangeOk {α : Type} {g : Operand} {ps : Array Tmp} {assign body : Code} {Q : Exit → Act → World → Prop} {a : Act} {w : World}
    (hro : F.round = none) (h1 : 1 ≤ n) {gf : Nat} {lb : Array Value} (hg : a.eval g = .func (.func gf) #[] lb) (hFg : F.fn gf) (eg : ∀ args w, (callFunc gf args).run P w = .ok (.enter gf args) w)
    {encs : α → Array Value} {Kp : World → World → Prop} {Ok : List α → α → World → World → Prop} {S Sp : List α → Prop} {w0 : World} (hseq : SeqOk F (n - 1) P gf lb encs Kp Ok S Sp w0)
    (hKt : ∀ {A B C : World}, Kp A B → Kp B C → Kp A C) (hKb : ∀ (W : World) (l : Nat) (o o' : Obj), w.heap.size ≤ l → W.heap[l]? = some o → o.isCells = false → o.isWalk = false → Kp W (W.putObj l o'))
    (hOk : ∀ pre x (W0 W : World) (l : Nat) (o o' : Obj), Ok pre x W0 W → W.heap[l]? = some o → o.isCells = false → Ok pre x W0 (W.putObj l o'))
    (hb0 : Below w0.heap.size w0 w) (hps : ∀ x, (encs x).size = ps.size)
    (I : List α → World → Prop) (Ix : Code → List α → World → Prop) (hI : OwnFrom w.heap.size I) (hIx : ∀ c, OwnFrom w.heap.size (Ix c)) (h0 : I [] w) (a₁ : α → Act)
    (hassign : ∀ (l : Nat) (x : α) (W : World) (K : Act → World → Prop), K (a₁ x) W →
      assign.wpIn (F.inRound l) (n - 1 - 1) P (Exit.then K (fun _ _ _ => False)) { tmps := (ps.zip (encs x)).foldl (fun t (p, v) => t.setIfInBounds p v) a.tmps, defers := [] } W)
    (hbody : ∀ (l : Nat) (pre : List α) (x : α) (W0 W : World), I pre W0 → I pre W → KeptC W0 W → Ok pre x W0 W → body.wpIn (F.inRound l) (n - 1 - 1) P (ownPostG w.heap.size Kp I Ix (pre ++ [x]) W) (a₁ x) W)
    (hdone : ∀ (D : Nat) (xs : List α) (W : World), w.heap.size ≤ D → S xs → I xs W → W.heap[D]? = some (.deferred (some [])) → Q .normal { a with defers := { target := .collected D, args := #[] } :: a.defers } W)
    (hstop : ∀ (D : Nat) (c : Code) (pre : List α) (W : World), w.heap.size ≤ D → Sp pre → Ix c pre W → W.heap[D]? = some (.deferred (some [])) → c.wpIn F n P Q { a with defers := { target := .collected D, args := #[] } :: a.defers } W) :
    (Code.rangeFunc g ps assign body).wpIn F n P Q a w := by
  refine wpIn_rangeFunc fun fn hfn => ?_
  rw [hro]
  -- D the block for the rounds' deferred calls, R the loop's record
  obtain ⟨D, hD⟩ : ∃ D, D = w.heap.size := ⟨_, rfl⟩
  obtain ⟨rec, hrec⟩ : ∃ rec : LoopState → Option Code → Loop, rec = fun st pe => { state := st, pending := pe, fn, tmps := a.tmps, params := ps, assign, body, defers := D } := ⟨_, rfl⟩
  obtain ⟨V, hV⟩ : ∃ V, V = (w.alloc (.deferred (some []))).alloc (.loop (rec .ready none)) := ⟨_, rfl⟩
  have hsz : V.heap.size = D + 2 := by rw [hV, hD]; simp
  have hrun : (Instr.enterLoop fn a.tmps ps assign body none).run P w = .ok (D + 1, [{ target := .collected D, args := #[] }]) V := by
    rw [hV, hrec, hD]; exact run_enterLoop_outer _ _ _ _ _
  have hVl : V.heap[D + 1]? = some (.loop (rec .ready none)) := by
    have h := World.alloc_heap_new (w.alloc (.deferred (some []))) (.loop (rec .ready none))
    rw [World.size_alloc, ← hD] at h
    rw [hV]; exact h
  have hVd : V.heap[D]? = some (.deferred (some [])) := by
    rw [hV, hD]; exact (Below.heap_alloc _ _ _ (by simp)).trans (World.alloc_heap_new w _)
  have hVI : I [] V := by rw [hV]; exact hI.alloc _ (hI.alloc _ h0)
  have hVb : Below w0.heap.size w0 V := by
    rw [hV]; exact hb0.trans ((((Below.refl _ w).alloc (Nat.le_refl _) _).alloc (by simp) _).mono hb0.size)
  have hDw : w.heap.size ≤ D := by omega
  clear hV
  -- the two facts of the law's own, kept by what turns other blocks
  have two : ∀ {A B : World} {row : Option Nat} (o1 o2 : Obj), o1.isCells = false → o2.isCells = false → o1.isWalk = false → o2.isWalk = false → A.grownBy B row → (∀ r, row = some r → V.heap.size ≤ r ∧ ∃ o : Obj, A.heap[r]? = some o ∧ o.isWalk = true) →
      A.heap[D + 1]? = some o1 → A.heap[D]? = some o2 → B.heap[D + 1]? = some o1 ∧ B.heap[D]? = some o2 := by
    intro A B row o1 o2 _ _ _ _ hgr hr e1 e2
    have ne : ∀ k, k < V.heap.size → row ≠ some k := fun k hk e => by have := (hr k e).1; omega
    have h1 := (Array.getElem?_eq_some_iff.1 e1).1
    have h2 := (Array.getElem?_eq_some_iff.1 e2).1
    exact ⟨(hgr.block _ h1 (Ne.symm (ne (D + 1) (by omega)))).trans e1, (hgr.block _ h2 (Ne.symm (ne D (by omega)))).trans e2⟩
  have nw : ∀ {A : World} {row : Option Nat}, (∀ r, row = some r → V.heap.size ≤ r ∧ ∃ o : Obj, A.heap[r]? = some o ∧ o.isWalk = true) → (∀ r, row = some r → w.heap.size ≤ r ∧ ∃ o : Obj, A.heap[r]? = some o ∧ o.isCells = false) :=
    fun hr r e => by obtain ⟨hB, o, ho, hw⟩ := hr r e; exact ⟨by omega, o, ho, Obj.not_cells_of_walk hw⟩
  refine ⟨D + 1, _, V, { target := .fn (.func gf) lb, args := #[.func (.yield (D + 1)) #[] #[]] }, V, gf, #[.func (.yield (D + 1)) #[] #[]] ++ lb, V, hrun, ?_, ?_, ?_, fun _ => h1, ?_⟩
  · simp only [resolve, hg]
    simp [go_sem]
  · intro f' hf'
    simp [Target.leads] at hf'
    subst hf'
    exact hFg
  · simp [invoke, go_sem, eg]
  refine CallsIn.mono (hseq (D + 1) (fun pre W => I pre W ∧ W.heap[D + 1]? = some (.loop (rec .ready none)) ∧ W.heap[D]? = some (.deferred (some [])))
    (fun pre W => ∃ c, Ix c pre W ∧ W.heap[D + 1]? = some (.loop (rec .done (some c))) ∧ W.heap[D]? = some (.deferred (some []))) V hVb
    (fun s A B row hs hgr hr => ⟨hI s A B row hs.1 hgr (nw hr), two _ _ rfl rfl rfl rfl hgr hr hs.2.1 hs.2.2⟩)
    (fun s A B row ⟨c, hc, e1, e2⟩ hgr hr => ⟨c, hIx c s A B row hc hgr (nw hr), two _ _ rfl rfl rfl rfl hgr hr e1 e2⟩) ?_ ⟨hVI, hVl, hVd⟩) ?_
  · rintro pre x W0 W ⟨hi0, _, _⟩ ⟨hi, hl, hk⟩ hkc hok
    obtain ⟨U, hU⟩ : ∃ U, U = W.putObj (D + 1) (.loop { rec .ready none with state := .busy }) := ⟨_, rfl⟩
    have hy := run_yield (P := P) (args := encs x) hl (by rw [hrec]; exact hps x)
    rw [hrec] at hy
    have hbeg : (Instr.beginRound (D + 1)).run P W = .ok () U := by rw [hU]; exact run_beginRound hl (by rw [hrec])
    refine ⟨fn, _, assign, body, hy, roundIn_of_wpIn hfn (hassign _ x W _ ⟨U, hbeg, ?_⟩)⟩
    have hUl : U.heap[D + 1]? = some (.loop { rec .ready none with state := .busy }) := by rw [hU]; exact World.putObj_heap_same (Array.getElem?_eq_some_iff.1 hl).1
    have hUd : U.heap[D]? = some (.deferred (some [])) := by rw [hU]; exact (World.putObj_heap_other (by omega)).trans hk
    have hUK : Kp W U := by rw [hU]; exact hKb _ _ _ _ (by omega) hl rfl rfl
    have hUI : I pre U := by rw [hU]; exact hI.putObj _ hi (by omega) hl rfl
    have hUC : KeptC W0 U := by rw [hU]; exact hkc.put _ _ hl rfl
    have hUO : Ok pre x W0 U := by rw [hU]; exact hOk _ _ _ _ _ _ _ hok hl rfl
    clear hU hbeg
    refine wpIn_mono (hbody _ pre x W0 U hi0 hUI hUC hUO) ?_
    -- the round's end
    have fin : ∀ (j : Option Code) (X : World), KeepsFrom w.heap.size U X → ∃ Y, Y = X.putObj (D + 1) (.loop (rec (if j.isNone then .ready else .done) j)) ∧
        (Instr.endRound (D + 1) j).run P X = .ok (.bool j.isNone) Y ∧ X.heap[D + 1]? = some (.loop { rec .ready none with state := .busy }) ∧ Y.heap[D + 1]? = some (.loop (rec (if j.isNone then .ready else .done) j)) ∧ Y.heap[D]? = some (.deferred (some [])) := by
      intro j X hX
      have e1 := hX.same _ _ (by omega) hUl rfl
      have e2 := hX.same _ _ hDw hUd rfl
      have hr := run_endRound (P := P) j e1
      rw [hrec] at hr
      refine ⟨_, rfl, ?_, e1, World.putObj_heap_same (Array.getElem?_eq_some_iff.1 e1).1, (World.putObj_heap_other (by omega)).trans e2⟩
      rw [hrec]
      exact hr
    have leave : ∀ (c : Code) (X : World), KeepsFrom w.heap.size U X → Ix c (pre ++ [x]) X → ∃ Y, (Instr.endRound (D + 1) (some c)).run P X = .ok (.bool false) Y ∧ Ix c (pre ++ [x]) Y ∧ Y.heap[D + 1]? = some (.loop (rec .done (some c))) ∧ Y.heap[D]? = some (.deferred (some [])) := by
      intro c X hX hx
      obtain ⟨Y, hY, hr, e0, e1, e2⟩ := fin (some c) X hX
      refine ⟨Y, hr, ?_, e1, e2⟩
      rw [hY]
      exact (hIx c).putObj _ hx (by omega) e0 rfl
    rintro e a3 X hp
    cases e with
    | normal =>
      obtain ⟨hX, hXK, hXI⟩ := hp
      obtain ⟨Y, hY, hr, e0, e1, e2⟩ := fin none X hX
      refine ⟨_, _, hr, .inl ⟨rfl, ⟨?_, e1, e2⟩, ?_⟩⟩
      · rw [hY]; exact hI.putObj _ hXI (by omega) e0 rfl
      · rw [hY]; exact hKt (hKt hUK hXK) (hKb _ _ _ _ (by omega) e0 rfl rfl)
    | ret => obtain ⟨Y, hr, h2, h3, h4⟩ := leave .ret X hp.1 hp.2; exact ⟨_, _, hr, .inr ⟨rfl, .ret, h2, h3, h4⟩⟩
    | exit id => obtain ⟨Y, hr, h2, h3, h4⟩ := leave (.exit id) X hp.1 hp.2; exact ⟨_, _, hr, .inr ⟨rfl, .exit id, h2, h3, h4⟩⟩
    | goto t => obtain ⟨Y, hr, h2, h3, h4⟩ := leave (.goto t) X hp.1 hp.2; exact ⟨_, _, hr, .inr ⟨rfl, .goto t, h2, h3, h4⟩⟩
    | panic ch => exact hp.elim
    | outgrown => exact hp.elim
  · rintro e X ⟨⟨v, rfl⟩, (⟨xs, hS, hi, hl, hk⟩ | ⟨pre, hSp, c, hi, hl, hk⟩)⟩
    · have hr := run_endLoop (P := P) hl (by rw [hrec]; simp)
      rw [hrec] at hr
      exact ⟨none, _, hr, hdone _ xs _ hDw hS (hI.putObj _ hi (by omega) hl rfl) ((World.putObj_heap_other (by omega)).trans hk)⟩
    · have hr := run_endLoop (P := P) hl (by rw [hrec]; simp)
      rw [hrec] at hr
      exact ⟨some c, _, hr, hstop _ c pre _ hDw hSp ((hIx c).putObj _ hi (by omega) hl rfl) ((World.putObj_heap_other (by omega)).trans hk)⟩

/-! a region that draws its order, in a round of the wide fence -/

def noDefer (ops : Array Oper) : Bool := ops.all fun o => match o.op with | .defer _ => false | _ => true
theorem noDefer_at {ops : Array Oper} (h : noDefer ops = true) {i : Nat} {o : Oper} (ho : ops[i]? = some o) : ∀ c, o.op ≠ .defer c := by
  intro c e
  obtain ⟨hi, rfl⟩ := Array.getElem?_eq_some_iff.1 ho
  have h' := Array.all_eq_true.1 h i hi
  rw [e] at h'
  cases h'
/-- only the way on -/
def QN (R : Act → World → Prop) : Exit → Act → World → Prop := fun x a w => x = .normal ∧ R a w
theorem not_lets (R : Act → World → Prop) : ¬ LetsOut (QN R) := fun ⟨_, _, h, _⟩ => by cases h
theorem rows_wide {l n : Nat} {P : Program} {row : String} {args : Array Value} {w : World} {R : Value → World → Prop} (h : Rows P row args w R) : RowsIn (Fence.wide.inRound l) n P row args w R :=
  fun c cs _ => let ⟨v, w', r, s⟩ := h c cs; ⟨v, w', r, stepsIn_wide.2 s⟩
theorem calls_wide {l n : Nat} {P : Program} {f : FuncId} {args : Array Value} {w : World} {R : Ending → World → Prop} (h : Calls P f args w R) : CallsIn (Fence.wide.inRound l) n P f args w R :=
  CallsIn.inRound l (callsIn_wide.2 h)
theorem wpOps_in {l n : Nat} {P : Program} {ops : Array Oper} {Q : Exit → Act → World → Prop} (hnd : noDefer ops = true) : ∀ (L : List Nat) (a : Act) (w : World),
    wpOps P ops (QN fun a w => Q .normal a w) L a w → wpOpsIn (Fence.wide.inRound l) n P ops Q L a w
  | [], a, w, h => h.2
  | i :: rest, a, w, h => by
    unfold wpOps at h
    unfold wpOpsIn
    cases ho : ops[i]? with
    | none => simp only [ho] at h ⊢; exact wpOps_in hnd rest a w h
    | some o =>
      simp only [ho] at h ⊢
      by_cases hw : Region.wanted o (yielded ops a.tmps) = true
      · rw [if_pos hw] at h ⊢
        rcases h with h | ⟨_, h⟩
        · refine ⟨fun _ _ => trivial, ?_⟩
          rw [Oper.semAt_eq _ _ _ (noDefer_at hnd ho)]
          unfold Oper.wp at h
          generalize (execOp a.eval o).run P w = r at h ⊢
          cases r with
          | ok x w' =>
            cases x <;> simp only [Oper.upon, Oper.uponIn] at h ⊢
            case value u => exact wpOps_in hnd rest _ _ h
            case skip => exact wpOps_in hnd rest _ _ h
            case defer d => exact wpOps_in hnd rest _ _ h
            case enter f args =>
              refine ⟨fun e => (by cases e), calls_wide (h.mono fun e w'' he => ?_)⟩
              cases e with
              | returned u => exact wpOps_in hnd rest _ _ he
              | panicked c => cases he.1
              | outgrown => exact absurd he (not_lets _)
            case row row args => exact ⟨fun e => (by cases e), rows_wide (h.mono fun u w'' he => wpOps_in hnd rest _ _ he)⟩
          | halt x w' =>
            cases x <;> simp only [Oper.upon, Oper.uponIn] at h ⊢
            case panic u => cases h.1
        · exact absurd h (not_lets _)
      · rw [if_neg hw] at h ⊢
        exact ⟨fun _ _ => trivial, wpOps_in hnd rest _ _ h⟩
theorem wpIn_any {l n : Nat} {P : Program} {ops : Array Oper} {Q : Exit → Act → World → Prop} {id : Nat} {a : Act} {w : World} (hnd : noDefer ops = true) (hm : P.follows .mixedOrders = true)
    (h : wpAny P .any ops (QN fun a w => Q .normal a w) ops.size (Array.replicate ops.size false) a w.drew) : (Code.region id ops true).wpIn (Fence.wide.inRound l) n P Q a w := by
  refine wpIn_region_draw fun t => wpOps_in hnd _ _ _ ?_
  simp only [Region.schedule, hm, Bool.true_or, if_true]
  exact wpAny_sound ops.size t _ a _ h
theorem wpIn_regionX (S : World → Prop) (L : Nat) {l n : Nat} {P : Program} {ops : Array Oper} {Q : Exit → Act → World → Prop} {id : Nat} {a : Act} {w : World} (hnd : noDefer ops = true) (hm : P.follows .mixedOrders = true) (hS : S w.drew)
    (h : wpX P .any ops (QN fun a w => Q .normal a w) L ops.size S (Array.replicate ops.size false) a) : (Code.region id ops true).wpIn (Fence.wide.inRound l) n P Q a w :=
  wpIn_any hnd hm (wpX_any _ _ _ _ _ h hS)

end Go.Proofs.Ytblgdfamomlklaa
/- strongroomkit.markBytes, SameBytes. -/
namespace Go.Proofs.Ytblgdfamomlklaa
open Go.RowKit

/-- the mark of place i of list k -/
def mrk (k i : Int) : UInt8 := UInt8.ofNat ((151 * k + 7 * i + 1) % 256).toNat
theorem mrk_toNat (k i : Int) : ((mrk k i).toNat : Int) = (151 * k + 7 * i + 1) % 256 := by
  unfold mrk
  rw [UInt8.toNat_ofNat']
  omega

set_option maxHeartbeats 400000 in
theorem mark_any (k i : Int) (w : World) (hk : 0 ≤ k ∧ k ≤ 1000000000) (hi : 0 ≤ i ∧ i ≤ 1000000000000) :
    Calls Try.prog 40 #[.int .i64 k, .int .i64 i] w fun e w' => e = .returned (.int .u8 ((mrk k i).toNat : Int)) ∧ w = w' := by
  obtain ⟨k1, k2⟩ := hk
  obtain ⟨i1, i2⟩ := hi
  rw [mrk_toNat]
  go_enter Try.func40, Try.ntmps40
  go_wp2
  go_ret
  exact ⟨rfl, rfl⟩

theorem ret_bool {a b : Bool} (h : a = b) : Ending.returned (.bool a) = .returned (.bool b) := by rw [h]

theorem take_step {l m : List UInt8} {k : Nat} (hl : k < l.length) (hm : k < m.length) (h : l.take k = m.take k) (e : l[k] = m[k]) : l.take (k + 1) = m.take (k + 1) := by
  rw [List.take_succ_eq_append_getElem hl, List.take_succ_eq_append_getElem hm, h, e]

set_option maxHeartbeats 400000 in
theorem same_any (a a' : Option Addr) (c c' : Nat) (la lb : List UInt8) (w : World) (ha : BLies w a la) (hb : BLies w a' lb) (hn : la.length ≤ maxLen) :
    Calls Try.prog 24 #[.slice a la.length c, .slice a' lb.length c'] w fun e w' => e = .returned (.bool (decide (la = lb))) ∧ ∃ n, w' = w.drewN n := by
  unfold maxLen at hn
  have HA : Hid (BLies w a la) := ha
  have HB : Hid (BLies w a' lb) := hb
  clear ha hb
  by_cases hl : la.length = lb.length
  · have hlb : ((la.length : Int) != (lb.length : Int)) = false := by simp [hl]
    have HL : Hid (la.length = lb.length) := hl
    clear hl
    go_enter Try.func24, Try.ntmps24
    go_wp2
    go_loopw [5] (fun i wr => ∃ k n : Nat, k ≤ la.length ∧ i = .int .i64 k ∧ wr = w.drewN n ∧ la.take k = lb.take k) (fun i _ => la.length - (intOf i).toNat)
    case atStart => exact ⟨0, 0, by omega, rfl, rfl, by simp⟩
    case round =>
      obtain ⟨k, n, hk, rfl, rfl, ht⟩ := hrel
      have HT : Hid (la.take k = lb.take k) := ht
      clear ht
      by_cases hlt : k < la.length
      · have hlt2 : k < lb.length := by have := HL.out; omega
        obtain ⟨b, off, rfl, hc⟩ := HA.out k hlt
        obtain ⟨b', off', rfl, hc'⟩ := HB.out k hlt2
        by_cases he : la[k] = lb[k]
        · have hbn : (((la[k]).toNat : Int) != ((lb[k]).toNat : Int)) = false := by simp [he]
          go_wp2
          go_quiet (fail)
          go_wp2
          go_roundw
          case rel => exact ⟨k + 1, n + nq, by omega, by go_num, by simp, take_step hlt hlt2 HT.out he⟩
          case measure => simp [intOf]; omega
        · have hbn : (((la[k]).toNat : Int) != ((lb[k]).toNat : Int)) = true := by
            rw [bne_iff_ne]
            intro h
            exact he (UInt8.toNat_inj.1 (by omega))
          go_wp2
          go_quiet (fail)
          go_wp2
          go_ret
          exact ⟨ret_bool (by rw [eq_comm, decide_eq_false_iff_not]; rintro rfl; exact he rfl), n + nq, by simp⟩
      · go_wp2
        go_ret
        exact ⟨ret_bool (by have h1 := HT.out; have h2 := HL.out; rw [eq_comm, decide_eq_true_iff]; rwa [List.take_of_length_le (by omega), List.take_of_length_le (by omega)] at h1), _, rfl⟩
  · have hlb : ((la.length : Int) != (lb.length : Int)) = true := by rw [bne_iff_ne]; omega
    go_enter Try.func24, Try.ntmps24
    go_wp2
    go_ret
    exact ⟨ret_bool (by rw [eq_comm, decide_eq_false_iff_not]; rintro rfl; exact hl rfl), 0, rfl⟩

theorem same_n (a a' : Option Addr) (c c' n n' : Nat) (la lb : List UInt8) (w : World) (ha : BLies w a la) (hb : BLies w a' lb) (hla : la.length = n) (hlb : lb.length = n') (hn : n ≤ maxLen) :
    Calls Try.prog 24 #[.slice a n c, .slice a' n' c'] w fun e w' => e = .returned (.bool (decide (la = lb))) ∧ ∃ n, w' = w.drewN n := by
  subst hla; subst hlb
  exact same_any a a' c c' la lb w ha hb hn
/-- two lists that are the same -/
theorem same_yes (a a' : Option Addr) (c c' n n' : Nat) (la : List UInt8) (w : World) (ha : BLies w a la) (hb : BLies w a' la) (hla : la.length = n) (hlb : la.length = n') (hn : n ≤ maxLen) :
    Calls Try.prog 24 #[.slice a n c, .slice a' n' c'] w fun e w' => e = .returned (.bool true) ∧ ∃ n, w' = w.drewN n :=
  (same_n a a' c c' n n' la la w ha hb hla hlb hn).mono fun e w' ⟨h1, h2⟩ => ⟨by rw [h1]; simp, h2⟩

end Go.Proofs.Ytblgdfamomlklaa
/- strongroomkit.LentBytes: the list, and marks behind it, in memory of its own. -/
namespace Go.Proofs.Ytblgdfamomlklaa
open Go.RowKit

/-- what LentBytes gives of a list: the list, and the marks behind it -/
def marks (n m : Nat) : List UInt8 := (List.range m).map fun (i : Nat) => mrk 0 ((n : Int) + (i : Int))
def lent (l : List UInt8) : List UInt8 := l ++ marks l.length 70
theorem marks_succ (n m : Nat) : marks n (m + 1) = marks n m ++ [mrk 0 ((n : Int) + (m : Int))] := by simp [marks, List.range_succ]
theorem marks_length (n m : Nat) : (marks n m).length = m := by simp [marks]
theorem lent_length (l : List UInt8) : (lent l).length = l.length + 70 := by simp [lent, marks_length]

/-- bytes that are owned -/
def BOwn (w : World) (base : Nat) (a : Option Addr) (n c : Nat) (l : List UInt8) : Prop := Own w base 5 1 a n c (l.map bval)

theorem BOwn.len {w : World} {base : Nat} {a : Option Addr} {n c : Nat} {l : List UInt8} (h : BOwn w base a n c l) : l.length = n := by
  have := h.1; simpa using this

theorem BOwn.cap {w : World} {base : Nat} {a : Option Addr} {n c : Nat} {l : List UInt8} (h : BOwn w base a n c l) : n ≤ c ∧ c ≤ maxLen := Own.cap h

theorem BOwn.lies {w : World} {base : Nat} {a : Option Addr} {n c : Nat} {l : List UInt8} (h : BOwn w base a n c l) : BLies w a l := by
  intro k hk
  obtain ⟨g, e, _, _, hc, _⟩ := Own.cell h k (by simpa using hk)
  exact ⟨g, 0, e, by rw [Nat.zero_add, hc]; simp [bval]⟩

theorem elB : El Try.prog 34 5 (.int .u8 0) 1 1 :=
  ⟨Try.underlying34, info_parts (by kernel_rfl), rfl, by decide⟩

theorem BLies.news {w : World} {b off : Nat} {l : List UInt8} (h : BLies w (some ⟨b, off, none⟩) l) : ∀ j u, (l.map bval)[j]? = some u → w.cell? ((⟨b, off, none⟩ : Addr).add j) = some u := by
  intro j u hu
  obtain ⟨hj, rfl⟩ := List.getElem?_eq_some_iff.1 hu
  obtain ⟨b', off', e, hc⟩ := h j (by simpa using hj)
  injection e with e; injection e with e1 e2
  subst e1; subst e2
  rw [Addr.add_lit, hc]
  simp [bval]
theorem BLies.addr {w : World} {a : Option Addr} {l : List UInt8} (h : BLies w a l) (hl : 0 < l.length) : ∃ b off, a = some ⟨b, off, none⟩ := by
  obtain ⟨b, off, e, _⟩ := h 0 hl
  exact ⟨b, off, e⟩
theorem bval_one (l : List UInt8) : ∀ u ∈ l.map bval, u.oneCell' = true := by
  intro u hu
  obtain ⟨x, _, rfl⟩ := List.mem_map.1 hu
  rfl

theorem map_take_succ {l : List UInt8} {k : Nat} (h : k < l.length) : (l.take (k + 1)).map bval = (l.take k).map bval ++ [.int .u8 ((l[k]).toNat : Int)] := by
  rw [List.take_succ_eq_append_getElem h, List.map_append]; rfl

set_option maxRecDepth 100000 in
set_option maxHeartbeats 1000000 in
theorem lent_any (a : Option Addr) (c : Nat) (l : List UInt8) (w : World) (ha : BLies w a l) (hn : l.length ≤ 4000000000) :
    Calls Try.prog 17 #[.slice a l.length c] w fun e w' => ∃ g cap, e = .returned (.slice (some ⟨g, 0, none⟩) (l.length + 70) cap) ∧ BOwn w' w.heap.size (some ⟨g, 0, none⟩) (l.length + 70) cap (lent l) ∧ w.grownBy w' none := by
  have HA : Hid (BLies w a l) := ha
  clear ha
  go_enter Try.func17, Try.ntmps17
  go_wp2
  go_loopw [3, 4] (fun v i wr => ∃ (k : Nat) (a' : Option Addr) (c' : Nat), k ≤ l.length ∧ i = .int .i64 k ∧ v = .slice a' k c' ∧ BOwn wr w.heap.size a' k c' (l.take k) ∧ w.grownBy wr none) (fun _ i _ => l.length - (intOf i).toNat)
  case atStart => exact ⟨0, none, 0, by omega, rfl, rfl, Own.nil _ _ _ _ _, World.grownBy.refl _ _⟩
  case round =>
    obtain ⟨k, a', c', hk, rfl, rfl, hown, hg⟩ := hrel
    by_cases hlt : k < l.length
    · obtain ⟨b, off, rfl, hc⟩ := HA.out k hlt
      have hc' : wr.cell? ⟨b, off + k, none⟩ = some (.int .u8 ((l[k]).toNat : Int)) := hg.cell hc (by simp)
      have hsz := hg.size
      go_wp2_with (at_builtin; refine wpList_push elB rfl (.tmp 12) (.tmp 17) rfl rfl hown (.int .u8 ((l[k]).toNat : Int)) rfl rfl (by unfold maxLen; omega) (by omega) hsz ?_; intro g cap w1 hown1 hgr)
      go_roundw
      case rel => exact ⟨k + 1, _, _, by omega, by go_num, rfl, by unfold BOwn; rw [map_take_succ hlt]; exact hown1, hgr.grew.grown hown hg (Nat.le_refl _)⟩
      case measure => simp [intOf]; omega
    · obtain rfl : k = l.length := by omega
      go_wp2
      go_loopw [3, 5] (fun v i wr => ∃ (k : Nat) (a' : Option Addr) (c' : Nat), k ≤ 70 ∧ i = .int .i64 k ∧ v = .slice a' (l.length + k) c' ∧ BOwn wr w.heap.size a' (l.length + k) c' (l ++ marks l.length k) ∧ w.grownBy wr none) (fun _ i _ => 70 - (intOf i).toNat)
      case atStart => exact ⟨0, _, _, by omega, rfl, rfl, by simpa [marks] using hown, hg⟩
      case round =>
        obtain ⟨k, a', c', hk, rfl, rfl, hown, hg⟩ := hrel
        have hsz := hg.size
        by_cases hlt : k < 70
        · go_wp2_with (first | (go_at_call 40; refine (mark_any _ _ _ (by omega) (by omega)).mono ?_; rintro e w' ⟨rfl, rfl⟩) | (at_builtin; refine wpList_push elB rfl (.tmp 23) (.tmp 29) rfl rfl hown (.int .u8 ((mrk 0 ((l.length : Int) + (k : Int))).toNat : Int)) rfl rfl (by unfold maxLen; omega) (by omega) hsz ?_; intro g cap w1 hown1 hgr))
          go_roundw
          case rel => exact ⟨k + 1, _, _, by omega, by go_num, rfl, by unfold BOwn; rw [marks_succ, ← List.append_assoc, List.map_append]; exact hown1, hgr.grew.grown hown hg (Nat.le_refl _)⟩
          case measure => simp [intOf]; omega
        · obtain rfl : k = 70 := by omega
          go_wp2
          go_ret
          obtain ⟨g, rfl, _⟩ := hown.block (by have := hown.2; omega)
          exact ⟨g, c', rfl, hown, hg⟩

theorem lent_n (a : Option Addr) (c n : Nat) (l : List UInt8) (w : World) (ha : BLies w a l) (hl : l.length = n) (hn : n ≤ 4000000000) :
    Calls Try.prog 17 #[.slice a n c] w fun e w' => ∃ g cap, e = .returned (.slice (some ⟨g, 0, none⟩) (n + 70) cap) ∧ BOwn w' w.heap.size (some ⟨g, 0, none⟩) (n + 70) cap (lent l) ∧ w.grownBy w' none := by
  subst hl
  exact lent_any a c l w ha hn

theorem lent_take (l : List UInt8) (n : Nat) (h : l.length = n) : (lent l).take n = l := by
  subst h; simp [lent]

end Go.Proofs.Ytblgdfamomlklaa
/- strongroomkit.KeptBytes, OverBytes. -/
namespace Go.Proofs.Ytblgdfamomlklaa
open Go.RowKit

set_option maxRecDepth 100000 in
set_option maxHeartbeats 1000000 in
theorem kept_any (a a' : Option Addr) (c c' : Nat) (lf l : List UInt8) (w : World) (hf : BLies w a lf) (hl : BLies w a' l) (hn : l.length ≤ 4000000000) (hm : lf.length ≤ maxLen) :
    Calls Try.prog 20 #[.slice a lf.length c, .slice a' l.length c'] w fun e w' => e = .returned (.bool (decide (lf = lent l))) ∧ w.grownBy w' none := by
  have HF : Hid (BLies w a lf) := hf
  have HL : Hid (BLies w a' l) := hl
  have e70 : l.length + 70 = (lent l).length := (lent_length l).symm
  have HE : Hid (l.length + 70 = (lent l).length) := e70
  clear hf hl e70
  go_enter Try.func20, Try.ntmps20
  go_wp2_with fail
  refine (lent_any _ _ _ _ HL.out hn).mono ?_
  rintro e w1 ⟨g, cap, rfl, hown, hg⟩
  go_wp2_with fail
  rw [HE.out]
  refine (same_any _ _ _ _ _ _ _ (HF.out.grown hg) hown.lies hm).mono ?_
  rintro e w2 ⟨rfl, n, rfl⟩
  go_wp2_with fail
  go_ret
  exact ⟨rfl, grownBy_trans hg (grownBy_drewN _ _ _)⟩

/-- what OverBytes leaves -/
def over (n : Nat) : List UInt8 := (List.range n).map fun (i : Nat) => mrk 7 ((i : Int) + 3)
theorem over_succ (n : Nat) : over (n + 1) = over n ++ [mrk 7 ((n : Int) + 3)] := by simp [over, List.range_succ]
theorem over_length (n : Nat) : (over n).length = n := by simp [over]

theorem over_step {k : Nat} {l : List UInt8} (h : k < l.length) : ((over k ++ l.drop k).map bval).set k (.int .u8 ((mrk 7 ((k : Int) + 3)).toNat : Int)) = (over (k + 1) ++ l.drop (k + 1)).map bval := by
  have e1 : l.drop k = l[k] :: l.drop (k + 1) := by simp
  rw [e1, over_succ, List.map_append, List.map_cons, List.set_append_right _ _ (by simp [over_length])]
  simp [over_length, bval]

set_option maxRecDepth 100000 in
set_option maxHeartbeats 1000000 in
theorem over_any (base g c : Nat) (l : List UInt8) (w : World) (ho : BOwn w base (some ⟨g, 0, none⟩) l.length c l) (hn : l.length ≤ 4000000100) :
    Calls Try.prog 21 #[.slice (some ⟨g, 0, none⟩) l.length c] w fun e w' => e = .returned (.tuple #[]) ∧ BOwn w' base (some ⟨g, 0, none⟩) l.length c (over l.length) ∧ w.grownBy w' (some g) := by
  go_enter Try.func21, Try.ntmps21
  go_wp2
  go_loopw [2] (fun i wr => ∃ k : Nat, k ≤ l.length ∧ i = .int .i64 k ∧ BOwn wr base (some ⟨g, 0, none⟩) l.length c (over k ++ l.drop k) ∧ w.grownBy wr (some g)) (fun i _ => l.length - (intOf i).toNat)
  case atStart => exact ⟨0, by omega, rfl, by simpa [over] using ho, World.grownBy.refl _ _⟩
  case round =>
    obtain ⟨k, hk, rfl, hown, hg⟩ := hrel
    by_cases hlt : k < l.length
    · obtain ⟨g', e1, _, _, hc, hf⟩ := Own.cell hown k (by simp [over_length]; omega)
      obtain rfl : g = g' := by simpa using e1
      clear e1
      have hset := Own.set hown k (by simp [over_length]; omega) (.int .u8 ((mrk 7 ((k : Int) + 3)).toNat : Int))
      rw [over_step hlt] at hset
      obtain ⟨u0, hu0⟩ : ∃ u0, wr.cell? ⟨g, k, none⟩ = some u0 := ⟨_, hc⟩
      clear hc
      go_wp2_with (go_at_call 40; refine (mark_any _ _ _ (by omega) (by omega)).mono ?_; rintro e w' ⟨rfl, rfl⟩)
      go_roundw
      case rel => exact ⟨k + 1, by omega, by go_num, hset, grownBy_trans hg (grownBy_setCell _ _ _ _)⟩
      case measure => simp [intOf]; omega
    · obtain rfl : k = l.length := by omega
      go_wp2
      go_end0
      exact ⟨rfl, by simpa using hown, hg⟩

/-- what LentBytes answered is as it was -/
theorem kept_yes (a a' : Option Addr) (c c' n m : Nat) (l : List UInt8) (w : World) (hf : BLies w a (lent l)) (hl : BLies w a' l) (hn : l.length = n) (hm : n + 70 = m) (hle : n ≤ 4000000000) :
    Calls Try.prog 20 #[.slice a m c, .slice a' n c'] w fun e w' => e = .returned (.bool true) ∧ w.grownBy w' none := by
  subst hn; subst hm
  rw [← lent_length]
  exact (kept_any a a' c c' (lent l) l w hf hl hle (by rw [lent_length]; unfold maxLen; omega)).mono fun e w' ⟨h1, h2⟩ => ⟨by rw [h1]; simp, h2⟩
theorem over_n (base g c n : Nat) (l : List UInt8) (w : World) (ho : BOwn w base (some ⟨g, 0, none⟩) n c l) (hn : n ≤ 4000000100) :
    Calls Try.prog 21 #[.slice (some ⟨g, 0, none⟩) n c] w fun e w' => e = .returned (.tuple #[]) ∧ BOwn w' base (some ⟨g, 0, none⟩) n c (over n) ∧ w.grownBy w' (some g) := by
  obtain rfl := ho.len
  exact over_any base g c l w ho hn

end Go.Proofs.Ytblgdfamomlklaa
/- What ApartBytes leans on: slices as values, lists of slices that own their rows, and what each loop's round does to them. No walk. -/
namespace Go.Proofs.Ytblgdfamomlklaa
open Go.RowKit

/-- a slice's value -/
structure Sl where
  a : Option Addr
  n : Nat
  c : Nat
def Sl.val (s : Sl) : Value := .slice s.a s.n s.c
/-- the block in which it has room -/
def Sl.blk (s : Sl) : Option Nat := if s.c = 0 then none else s.a.map (·.block)

/-- the marks of list k -/
def mkl (k n : Nat) : List UInt8 := (List.range n).map fun (i : Nat) => mrk ((k : Int) + 1) (i : Int)
theorem mkl_succ (k n : Nat) : mkl k (n + 1) = mkl k n ++ [mrk ((k : Int) + 1) (n : Int)] := by simp [mkl, List.range_succ]
theorem mkl_length (k n : Nat) : (mkl k n).length = n := by simp [mkl]
theorem mkl_take (k n m : Nat) (h : m ≤ n) : (mkl k n).take m = mkl k m := by
  simp [mkl, ← List.map_take, List.take_range, Nat.min_eq_left h]
theorem mkl_get (k n i : Nat) (h : i < (mkl k n).length) : (mkl k n)[i] = mrk ((k : Int) + 1) (i : Int) := by simp [mkl]

/-- a slice of slices of bytes that the call owns -/
def SOwn (w : World) (base : Nat) (a : Option Addr) (n c : Nat) (L : List Sl) : Prop := Own w base 34 1 a n c (L.map Sl.val)

theorem SOwn.len {w : World} {base : Nat} {a : Option Addr} {n c : Nat} {L : List Sl} (h : SOwn w base a n c L) : L.length = n := by
  have := h.1; simpa using this

theorem elS : El Try.prog 43 34 (.slice none 0 0) 1 24 :=
  ⟨Try.underlying43, info_parts (by kernel_rfl), rfl, by decide⟩

/-- rows of unlike element types lie in unlike blocks -/
theorem own_ne {w : World} {base base' : Nat} {e e' size size' : Nat} {g g' n n' c c' : Nat} {xs ys : List Value} (h : Own w base e size (some ⟨g, 0, none⟩) n c xs) (h' : Own w base' e' size' (some ⟨g', 0, none⟩) n' c' ys) (hc : 0 < c) (hc' : 0 < c') (hne : e ≠ e') : g ≠ g' := by
  rcases h.2 with ⟨_, h0⟩ | ⟨_, cur, ha, _, hh, _⟩
  · omega
  rcases h'.2 with ⟨_, h0⟩ | ⟨_, cur', ha', _, hh', _⟩
  · omega
  rintro rfl
  injection ha with ha; injection ha with ha1
  injection ha' with ha'; injection ha' with ha'1
  subst ha1; subst ha'1
  rw [hh] at hh'
  injection hh' with hh'
  injection hh' with _ h2 _
  exact hne h2

/-- a store into a row of bytes leaves a row of another type -/
theorem Own.setOther {w : World} {base base' : Nat} {e e' size size' : Nat} {a : Option Addr} {g n n' c c' : Nat} {xs ys : List Value} (h : Own w base e size a n c xs) (h' : Own w base' e' size' (some ⟨g, 0, none⟩) n' c' ys) (hc' : 0 < c') (hne : e ≠ e') (k : Nat) (u : Value) : Own (w.setCell ⟨g, k, none⟩ u) base e size a n c xs := by
  by_cases hc : 0 < c
  · obtain ⟨g2, rfl, _, _⟩ := h.block hc
    have hn := own_ne h h' hc hc' hne
    exact h.kept fun g3 e3 _ => Below.heap_setCell _ _ _ _ (by injection e3 with e3; injection e3 with e3; subst e3; exact hn)
  · refine ⟨h.1, .inl ?_⟩
    rcases h.2 with h0 | ⟨_, _, _, _, _, hn, _⟩
    · exact h0
    · exact ⟨by omega, by omega⟩

/-- the lists lie apart -/
def Distinct (L : List Sl) : Prop := ∀ i j (hi : i < L.length) (hj : j < L.length), i ≠ j → ∀ g, (L[i]).blk = some g → (L[j]).blk ≠ some g

theorem BOwn.grown {w w' : World} {base : Nat} {a : Option Addr} {n c : Nat} {l : List UInt8} (h : BOwn w base a n c l) (hg : w.grownBy w' none) : BOwn w' base a n c l :=
  Own.kept h fun g _ hl => hg.block g hl (by simp)
theorem BOwn.drewN {w : World} {base : Nat} {a : Option Addr} {n c : Nat} {l : List UInt8} (h : BOwn w base a n c l) (m : Nat) : BOwn (w.drewN m) base a n c l := h
theorem BOwn.mono {w : World} {base base' : Nat} {a : Option Addr} {n c : Nat} {l : List UInt8} (h : BOwn w base a n c l) (hb : base' ≤ base) : BOwn w base' a n c l := Own.mono h hb

/-- phase 1: the lists below k bear their marks, list k the first i of them -/
structure St1 (base : Nat) (als : Option Addr) (cls : Nat) (L : List Sl) (w : World) (k i : Nat) (wr : World) : Prop where
  outer : SOwn wr base als L.length cls L
  inner : ∀ j (hj : j < L.length), ∃ l, BOwn wr base (L[j]).a (L[j]).n (L[j]).c l ∧ (j < k → l = mkl j (L[j]).n) ∧ (j = k → l.take i = mkl k i)
  below : Below base w wr

theorem St1.drewN {base : Nat} {als : Option Addr} {cls : Nat} {L : List Sl} {w : World} {k i : Nat} {wr : World} (h : St1 base als cls L w k i wr) (n : Nat) : St1 base als cls L w k i (wr.drewN n) :=
  ⟨h.outer, h.inner, h.below.trans ⟨rfl, rfl, rfl, Nat.le_refl _, fun _ _ => rfl⟩⟩
theorem St1.drew {base : Nat} {als : Option Addr} {cls : Nat} {L : List Sl} {w : World} {k i : Nat} {wr : World} (h : St1 base als cls L w k i wr) : St1 base als cls L w k i wr.drew := h.drewN 1

theorem St1.next {base : Nat} {als : Option Addr} {cls : Nat} {L : List Sl} {w : World} {k i : Nat} {wr : World} (h : St1 base als cls L w k i wr) (hk : k < L.length) (hi : i = (L[k]).n) : St1 base als cls L w (k + 1) 0 wr := by
  refine ⟨h.outer, fun j hj => ?_, h.below⟩
  obtain ⟨l, ho, h1, h2⟩ := h.inner j hj
  refine ⟨l, ho, fun hjk => ?_, fun _ => by simp [mkl]⟩
  by_cases e : j = k
  · subst e
    have := h2 rfl
    rw [hi, List.take_of_length_le (by rw [ho.len]; omega)] at this
    exact this
  · exact h1 (by omega)

theorem take_set_succ {l : List UInt8} {i : Nat} (hi : i < l.length) (x : UInt8) : (l.set i x).take (i + 1) = l.take i ++ [x] := by
  rw [List.take_succ_eq_append_getElem (by simpa using hi), List.take_set_of_le (Nat.le_refl _)]
  simp

theorem St1.store {base : Nat} {als : Option Addr} {cls : Nat} {L : List Sl} {w : World} {k i : Nat} {wr : World} (h : St1 base als cls L w k i wr) (hd : Distinct L) (hk : k < L.length) (hi : i < (L[k]).n) :
    ∃ g, (L[k]).a = some ⟨g, 0, none⟩ ∧ (∃ u, wr.cell? ⟨g, i, none⟩ = some u) ∧ wr.frozen? ⟨g, i, none⟩ = false ∧ St1 base als cls L w k (i + 1) (wr.setCell ⟨g, i, none⟩ (.int .u8 ((mrk ((k : Int) + 1) (i : Int)).toNat : Int))) := by
  obtain ⟨l, ho, _, h2⟩ := h.inner k hk
  have hlen := ho.len
  obtain ⟨g, ha, hb, hlt, hc, hf⟩ := Own.cell ho i (by simp; omega)
  have hpos : 0 < (L[k]).c := by
    rcases ho.2 with ⟨h0, _⟩ | ⟨_, _, _, _, _, hn, _⟩ <;> omega
  have hblk : (L[k]).blk = some g := by simp [Sl.blk, Nat.ne_of_gt hpos, ha]
  refine ⟨g, ha, ⟨_, hc⟩, hf, ?_, fun j hj => ?_, h.below.trans ((Below.refl base wr).setCell (p := ⟨g, i, none⟩) hb _)⟩
  · exact Own.setOther h.outer (by rw [ha] at ho; exact ho) hpos (by decide) _ _
  · by_cases e : j = k
    · subst e
      refine ⟨l.set i (mrk ((j : Int) + 1) (i : Int)), ?_, fun hj' => by omega, fun _ => ?_⟩
      · rw [ha] at ho ⊢
        have := Own.set ho i (by simp; omega) (.int .u8 ((mrk ((j : Int) + 1) (i : Int)).toNat : Int))
        unfold BOwn
        rw [List.map_set]
        exact this
      · rw [take_set_succ (by omega), h2 rfl, mkl_succ]
    · obtain ⟨lj, hoj, h1j, _⟩ := h.inner j hj
      refine ⟨lj, ?_, h1j, fun e' => absurd e' e⟩
      refine hoj.kept' fun hcj g' hg' _ => Below.heap_setCell _ _ _ _ ?_
      rintro rfl
      exact hd j k hj hk e g' (by simp [Sl.blk, Nat.ne_of_gt hcj, hg']) hblk

/-- what is owned stays owned where another block is written -/
theorem Own.grownNe {w w' : World} {base : Nat} {e : TypeId} {size : Nat} {a : Option Addr} {n c : Nat} {xs : List Value} {row : Option Nat} (h : Own w base e size a n c xs) (hg : w.grownBy w' row) (hne : ∀ g, 0 < c → a = some ⟨g, 0, none⟩ → row ≠ some g) : Own w' base e size a n c xs :=
  h.kept' fun hc g ha hl => hg.block g hl (fun e => hne g hc ha e.symm)
theorem Own.grownNone {w w' : World} {base : Nat} {e : TypeId} {size : Nat} {a : Option Addr} {n c : Nat} {xs : List Value} (h : Own w base e size a n c xs) (hg : w.grownBy w' none) : Own w' base e size a n c xs :=
  h.grownNe hg (by simp)
/-- an append to a row of another type -/
theorem Own.grewOther {w w' : World} {base base' : Nat} {e e' size size' : Nat} {a a' a2 : Option Addr} {n n' c c' c2 : Nat} {xs ys : List Value} (h : Own w base e size a n c xs) (h' : Own w base' e' size' a' n' c' ys) (hg : GrewP w w' a' c' a2 c2) (hne : e ≠ e') : Own w' base e size a n c xs := by
  rcases hg with ⟨g, rfl, rfl, hc', _, hg⟩ | ⟨g, _, _, hg⟩
  · refine h.grownNe hg fun g' hc ha => ?_
    subst ha
    have := own_ne h h' hc hc' hne
    intro e; injection e with e; exact this e.symm
  · exact h.grownNone hg

theorem Sl.blk_some {s : Sl} {g : Nat} (hc : 0 < s.c) (ha : s.a = some ⟨g, 0, none⟩) : s.blk = some g := by
  simp [Sl.blk, Nat.ne_of_gt hc, ha]
theorem BOwn.blk {w : World} {base : Nat} {s : Sl} {l : List UInt8} (h : BOwn w base s.a s.n s.c l) {g : Nat} (hb : s.blk = some g) : 0 < s.c ∧ s.a = some ⟨g, 0, none⟩ := by
  unfold Sl.blk at hb
  split at hb
  · cases hb
  · rename_i hc
    obtain ⟨g', ha, _, _⟩ := Own.block h (by omega)
    rw [ha] at hb
    simp at hb
    subst hb
    exact ⟨by omega, ha⟩

/-- phase 2: to the copies below k the marks behind their lists have been appended -/
structure St2 (base : Nat) (als : Option Addr) (cls : Nat) (L : List Sl) (w : World) (B : Nat) (k : Nat) (ags : Option Addr) (cgs : Nat) (G : List Sl) (wr : World) : Prop where
  outer : SOwn wr base als L.length cls L
  gs : SOwn wr B ags k cgs G
  lists : ∀ j (hj : j < L.length), BOwn wr base (L[j]).a (L[j]).n (L[j]).c (mkl j (L[j]).n)
  done : ∀ j (hj : j < L.length) (hG : j < G.length), (G[j]).n = (L[j]).n + 70 ∧ BOwn wr base (G[j]).a (G[j]).n (G[j]).c (mkl j ((L[j]).n + 70)) ∧ ∀ g, (G[j]).blk = some g → (L[j]).blk = some g ∨ B ≤ g
  below : Below base w wr
  size : B ≤ wr.heap.size
  baseB : base ≤ B
  oldO : ∀ g, 0 < cls → als = some ⟨g, 0, none⟩ → g < B
  oldL : ∀ j (hj : j < L.length) g, (L[j]).blk = some g → g < B

theorem St2.start {base : Nat} {als : Option Addr} {cls : Nat} {L : List Sl} {w wr : World} (h : St1 base als cls L w L.length 0 wr) (hb : base ≤ w.heap.size) : St2 base als cls L w wr.heap.size 0 none 0 [] wr where
  outer := h.outer
  gs := Own.nil _ _ _ _ _
  lists := fun j hj => by
    obtain ⟨l, ho, h1, _⟩ := h.inner j hj
    rw [h1 hj] at ho
    exact ho
  done := fun j hj hG => absurd hG (by simp)
  below := h.below
  size := Nat.le_refl _
  baseB := Nat.le_trans hb h.below.size
  oldO := fun g hc ha => by
    obtain ⟨g', ha', _, hlt⟩ := Own.block h.outer hc
    rw [ha] at ha'
    injection ha' with ha'; injection ha' with ha'
    omega
  oldL := fun j hj g hg => by
    obtain ⟨l, ho, _, _⟩ := h.inner j hj
    obtain ⟨hc, ha⟩ := ho.blk hg
    obtain ⟨g', ha', _, hlt⟩ := Own.block ho hc
    rw [ha] at ha'
    injection ha' with ha'; injection ha' with ha'
    omega

/-- the inner loop of phase 2 -/
structure In2 (base : Nat) (L : List Sl) (k : Nat) (hk : k < L.length) (wk : World) (i : Nat) (a : Option Addr) (c : Nat) (wr : World) : Prop where
  row : BOwn wr base a ((L[k]).n + i) c (mkl k ((L[k]).n + i))
  frame : wk.grownBy wr (L[k]).blk
  place : ∀ g, 0 < c → a = some ⟨g, 0, none⟩ → (L[k]).blk = some g ∨ wk.heap.size ≤ g
  list : BOwn wr base (L[k]).a (L[k]).n (L[k]).c (mkl k (L[k]).n)

theorem In2.start {base : Nat} {als : Option Addr} {cls : Nat} {L : List Sl} {w : World} {B k : Nat} {ags : Option Addr} {cgs : Nat} {G : List Sl} {wr : World} (h : St2 base als cls L w B k ags cgs G wr) (hk : k < L.length) : In2 base L k hk wr 0 (L[k]).a (L[k]).c wr :=
  ⟨h.lists k hk, World.grownBy.refl _ _, fun g hc ha => .inl (Sl.blk_some hc ha), h.lists k hk⟩

theorem own_prefix {w w1 : World} {base : Nat} {e : TypeId} {g n n' c c' : Nat} {xs ys : List Value} (h : Own w base e 1 (some ⟨g, 0, none⟩) n c xs) (hc : 0 < c) (h1 : Own w1 base e 1 (some ⟨g, 0, none⟩) n' c' ys) (hcc : c' = c) (hx : ys.take n = xs) (hn : n ≤ n') : Own w1 base e 1 (some ⟨g, 0, none⟩) n c xs := by
  subst hcc
  refine ⟨h.1, .inr ?_⟩
  rcases h.2 with ⟨_, h0⟩ | ⟨g1, cur, ha, hb, hh, hnc, hm, hs, ht⟩
  · omega
  rcases h1.2 with ⟨_, h0⟩ | ⟨g2, cur2, ha2, hb2, hh2, hnc2, hm2, hs2, ht2⟩
  · omega
  refine ⟨g2, cur2, ha2, hb2, hh2, hnc, hm, hs2, ?_⟩
  rw [← hx, ← ht2, List.take_take]
  congr 1
  omega

theorem own_cap {w : World} {base base' : Nat} {e : TypeId} {g n n' c c' : Nat} {xs ys : List Value} (h : Own w base e 1 (some ⟨g, 0, none⟩) n c xs) (h' : Own w base' e 1 (some ⟨g, 0, none⟩) n' c' ys) (hc : 0 < c) (hc' : 0 < c') : c = c' := by
  rcases h.2 with ⟨_, h0⟩ | ⟨g1, cur, ha, hb, hh, hnc, hm, hs, ht⟩
  · omega
  rcases h'.2 with ⟨_, h0⟩ | ⟨g2, cur2, ha2, hb2, hh2, hnc2, hm2, hs2, ht2⟩
  · omega
  injection ha with ha; injection ha with ha
  injection ha2 with ha2; injection ha2 with ha2
  subst ha; subst ha2
  rw [hh] at hh2
  injection hh2 with hh2
  injection hh2 with h1 _ _
  subst h1
  omega

theorem In2.next {base : Nat} {L : List Sl} {k : Nat} {hk : k < L.length} {wk : World} {i : Nat} {a : Option Addr} {c : Nat} {wr : World} (h : In2 base L k hk wk i a c wr) {g c' : Nat} {w1 : World}
    (ho : Own w1 base 5 1 (some ⟨g, 0, none⟩) ((L[k]).n + i + 1) c' ((mkl k ((L[k]).n + i)).map bval ++ [.int .u8 ((mrk ((k : Int) + 1) (((L[k]).n : Int) + (i : Int))).toNat : Int)])) (hg : GrewP wr w1 a c (some ⟨g, 0, none⟩) c') : In2 base L k hk wk (i + 1) (some ⟨g, 0, none⟩) c' w1 := by
  have hrow : BOwn w1 base (some ⟨g, 0, none⟩) ((L[k]).n + (i + 1)) c' (mkl k ((L[k]).n + (i + 1))) := by
    unfold BOwn
    rw [← Nat.add_assoc, mkl_succ, List.map_append]
    have e : (((L[k]).n + i : Nat) : Int) = ((L[k]).n : Int) + (i : Int) := by omega
    rw [e]
    exact ho
  rcases hg with ⟨g1, e1, rfl, hc, hcc, hg⟩ | ⟨g1, e1, hs, hg⟩
  · injection e1 with e1; injection e1 with e1
    subst e1
    have hpl := h.place g hc rfl
    refine ⟨hrow, ?_, fun g2 _ e2 => ?_, ?_⟩
    · rcases hpl with hb | hb
      · rw [hb]; exact grownBy_trans (by have := h.frame; rwa [hb] at this) hg
      · exact ⟨hg.os.trans h.frame.os, hg.tape.trans h.frame.tape, hg.output.trans h.frame.output, Nat.le_trans h.frame.size hg.size, fun b hb1 hb2 => (hg.block b (Nat.lt_of_lt_of_le hb1 h.frame.size) (by simp; omega)).trans (h.frame.block b hb1 hb2)⟩
    · injection e2 with e2; injection e2 with e2
      subst e2
      exact hpl
    · by_cases hb : (L[k]).blk = some g
      · obtain ⟨hc2, ha2⟩ := h.list.blk hb
        have hl := h.list
        rw [ha2] at hl ⊢
        have hcap := own_cap h.row hl hc hc2
        refine own_prefix hl hc2 hrow (by omega) ?_ (by omega)
        rw [← List.map_take, mkl_take _ _ _ (by omega)]
      · refine Own.grownNe h.list hg fun g2 hc2 ha2 e2 => ?_
        injection e2 with e2
        subst e2
        exact hb (Sl.blk_some hc2 ha2)
  · injection e1 with e1; injection e1 with e1
    subst e1
    refine ⟨hrow, grownBy_trans h.frame (grownBy_some hg _), fun g2 _ e2 => ?_, Own.grownNone h.list hg⟩
    injection e2 with e2; injection e2 with e2
    subst e2
    exact .inr (Nat.le_trans h.frame.size hs)

theorem St2.outerIn {base : Nat} {als : Option Addr} {cls : Nat} {L : List Sl} {w : World} {B k : Nat} {ags : Option Addr} {cgs : Nat} {G : List Sl} {wk wr : World} (h : St2 base als cls L w B k ags cgs G wk) (hk : k < L.length) (hf : wk.grownBy wr (L[k]).blk) : SOwn wr base als L.length cls L := by
  refine Own.grownNe h.outer hf fun g1 hc1 ha1 hb1 => ?_
  obtain ⟨hc2, ha2⟩ := (h.lists k hk).blk hb1
  have h3 := h.outer
  have h4 := h.lists k hk
  rw [ha1] at h3
  rw [ha2] at h4
  exact own_ne h3 h4 hc1 hc2 (by decide) rfl

/-- the copy is laid among the others -/
theorem St2.next {base : Nat} {als : Option Addr} {cls : Nat} {L : List Sl} {w : World} {B k : Nat} {ags : Option Addr} {cgs : Nat} {G : List Sl} {wk wr w1 : World} (h : St2 base als cls L w B k ags cgs G wk) (hk : k < L.length) (hd : Distinct L) {a : Option Addr} {c : Nat} (h2 : In2 base L k hk wk 70 a c wr)
    {g cg : Nat} (ho : Own w1 B 34 1 (some ⟨g, 0, none⟩) (k + 1) cg (G.map Sl.val ++ [.slice a ((L[k]).n + 70) c])) (hg : GrewP wr w1 ags cgs (some ⟨g, 0, none⟩) cg) : St2 base als cls L w B (k + 1) (some ⟨g, 0, none⟩) cg (G ++ [⟨a, (L[k]).n + 70, c⟩]) w1 := by
  have hGl : G.length = k := h.gs.len
  have gs' : SOwn wr B ags k cgs G := by
    refine Own.grownNe h.gs h2.frame fun g1 hc1 ha1 hb1 => ?_
    obtain ⟨hc2, ha2⟩ := (h.lists k hk).blk hb1
    have h3 := h.gs
    have h4 := h.lists k hk
    rw [ha1] at h3
    rw [ha2] at h4
    exact own_ne h3 h4 hc1 hc2 (by decide) rfl
  have lists' : ∀ j (hj : j < L.length), BOwn wr base (L[j]).a (L[j]).n (L[j]).c (mkl j (L[j]).n) := by
    intro j hj
    by_cases e : j = k
    · subst e; exact h2.list
    · exact Own.grownNe (h.lists j hj) h2.frame fun g1 hc1 ha1 hb1 => hd j k hj hk e g1 (Sl.blk_some hc1 ha1) hb1
  refine ⟨?_, by unfold SOwn; rw [List.map_append]; exact ho, fun j hj => Own.grewOther (lists' j hj) gs' hg (by decide), fun j hj hG => ?_, ?_, ?_, h.baseB, h.oldO, h.oldL⟩
  · have o1 := h.outerIn hk h2.frame
    rcases hg with ⟨g1, e1, rfl, hc, hcc, hg⟩ | ⟨g1, e1, hs, hg⟩
    · refine Own.grownNe o1 hg fun g2 hc2 ha2 e2 => ?_
      injection e2 with e2
      subst e2
      have := h.oldO _ hc2 ha2
      obtain ⟨g3, e3, hb3, _⟩ := Own.block gs' hc
      rw [e1] at e3
      injection e3 with e3; injection e3 with e3
      omega
    · exact Own.grownNone o1 hg
  · by_cases e : j = k
    · subst e
      have eG : (G ++ [(⟨a, (L[j]).n + 70, c⟩ : Sl)])[j] = ⟨a, (L[j]).n + 70, c⟩ := by
        rw [List.getElem_append_right (by omega)]; simp [hGl]
      rw [eG]
      refine ⟨rfl, Own.grewOther h2.row gs' hg (by decide), fun g1 hb1 => ?_⟩
      have hb2 : c ≠ 0 ∧ ∃ x, a = some x ∧ x.block = g1 := by
        simp only [Sl.blk] at hb1
        split at hb1
        · cases hb1
        · rename_i hc
          exact ⟨hc, by simpa [Option.map_eq_some_iff] using hb1⟩
      obtain ⟨hc, x, rfl, rfl⟩ := hb2
      obtain ⟨g3, e3, _, _⟩ := Own.block h2.row (by omega)
      injection e3 with e3
      subst e3
      rcases h2.place g3 (by omega) rfl with hp | hp
      · exact .inl hp
      · exact .inr (Nat.le_trans h.size hp)
    · have hjk : j < k := by simp at hG; omega
      have eG : (G ++ [(⟨a, (L[k]).n + 70, c⟩ : Sl)])[j] = G[j]'(by omega) := List.getElem_append_left (by omega)
      rw [eG]
      obtain ⟨e1, e2, e3⟩ := h.done j hj (by omega)
      refine ⟨e1, Own.grewOther (Own.grownNe e2 h2.frame fun g1 hc1 ha1 hb1 => ?_) gs' hg (by decide), e3⟩
      rcases e3 g1 (Sl.blk_some hc1 ha1) with h5 | h5
      · exact hd j k hj hk e g1 h5 hb1
      · have := h.oldL k hk g1 hb1
        omega
  · have f1 : Below base wk wr := by
      refine ⟨h2.frame.os, h2.frame.tape, h2.frame.output, h2.frame.size, fun b hb => h2.frame.block b (by have := h.size; have := h.baseB; omega) fun e => ?_⟩
      obtain ⟨hc2, ha2⟩ := (h.lists k hk).blk e.symm
      obtain ⟨g3, e3, hb3, _⟩ := Own.block (h.lists k hk) hc2
      rw [ha2] at e3
      injection e3 with e3; injection e3 with e3
      omega
    refine h.below.trans (f1.trans ?_)
    rcases hg with ⟨g1, e1, rfl, hc, hcc, hg⟩ | ⟨g1, e1, hs, hg⟩
    · obtain ⟨g3, e3, hb3, _⟩ := Own.block gs' hc
      rw [e1] at e3
      injection e3 with e3; injection e3 with e3
      exact (Below.refl base wr).grown hg (by have := h.size; have := h.baseB; have := h2.frame.size; omega) (by rintro b ⟨⟩; have := h.baseB; omega)
    · exact (Below.refl base wr).grown hg (by have := h.size; have := h.baseB; have := h2.frame.size; omega) (by simp)
  · have := h.size
    have := h2.frame.size
    have := hg.grew.size
    omega

/-- phase 3: what is looked at -/
theorem St2.look {base : Nat} {als : Option Addr} {cls : Nat} {L : List Sl} {w : World} {B : Nat} {ags : Option Addr} {cgs : Nat} {G : List Sl} {wr : World} (h : St2 base als cls L w B L.length ags cgs G wr) (k : Nat) (hk : k < L.length) :
    ∃ gl gg h c, als = some ⟨gl, 0, none⟩ ∧ ags = some ⟨gg, 0, none⟩ ∧ wr.cell? ⟨gl, k, none⟩ = some (.slice (L[k]).a (L[k]).n (L[k]).c) ∧ wr.cell? ⟨gg, k, none⟩ = some (.slice (some ⟨h, 0, none⟩) ((L[k]).n + 70) c) ∧
      (∀ i, i < (L[k]).n + 70 → wr.cell? ⟨h, i, none⟩ = some (.int .u8 ((mrk ((k : Int) + 1) (i : Int)).toNat : Int))) ∧
      (∀ i, i < (L[k]).n → ∃ g, (L[k]).a = some ⟨g, 0, none⟩ ∧ wr.cell? ⟨g, i, none⟩ = some (.int .u8 ((mrk ((k : Int) + 1) (i : Int)).toNat : Int))) := by
  obtain ⟨gl, e1, _, _, c1, _⟩ := Own.cell h.outer k (by simpa using hk)
  obtain ⟨gg, e2, _, _, c2, _⟩ := Own.cell h.gs k (by simpa [h.gs.len] using hk)
  have hG : k < G.length := by rw [h.gs.len]; exact hk
  obtain ⟨d1, d2, _⟩ := h.done k hk hG
  obtain ⟨hh, e3, _, _, _, _⟩ := Own.cell d2 0 (by simp [mkl_length])
  refine ⟨gl, gg, hh, (G[k]).c, e1, e2, by rw [c1]; simp [Sl.val], by rw [c2]; simp [Sl.val, e3, d1], fun i hi => ?_, fun i hi => ?_⟩
  · obtain ⟨h', e4, _, _, c4, _⟩ := Own.cell d2 i (by simp [mkl_length]; omega)
    rw [e3] at e4
    injection e4 with e4; injection e4 with e4
    subst e4
    rw [c4]
    simp [bval, mkl]
  · obtain ⟨g, e4, _, _, c4, _⟩ := Own.cell (h.lists k hk) i (by simp [mkl_length]; omega)
    exact ⟨g, e4, by rw [c4]; simp [bval, mkl]⟩

end Go.Proofs.Ytblgdfamomlklaa
/- Lists of lists of bytes that the call owns: an outer row of slices, each of them with memory of its own. -/
namespace Go.Proofs.Ytblgdfamomlklaa
open Go.RowKit

/-- the value '.slice a n c' owns the lists bs -/
def LOwn (w : World) (base : Nat) (a : Option Addr) (n c : Nat) (bs : List (List UInt8)) : Prop :=
  ∃ L : List Sl, SOwn w base a n c L ∧ L.length = bs.length ∧ (∀ i (h : i < L.length) (h' : i < bs.length), BOwn w base (L[i]).a (L[i]).n (L[i]).c bs[i]) ∧ Distinct L

theorem LOwn.nil (w : World) (base : Nat) : LOwn w base none 0 0 [] :=
  ⟨[], Own.nil _ _ _ _ _, rfl, fun i (h : i < 0) => absurd h (by omega), fun i j (h : i < 0) => absurd h (by omega)⟩
theorem LOwn.len {w : World} {base : Nat} {a : Option Addr} {n c : Nat} {bs : List (List UInt8)} (h : LOwn w base a n c bs) : bs.length = n := by
  obtain ⟨L, h1, h2, _⟩ := h
  rw [← h2]; exact h1.len
theorem LOwn.cap {w : World} {base : Nat} {a : Option Addr} {n c : Nat} {bs : List (List UInt8)} (h : LOwn w base a n c bs) : n ≤ c ∧ c ≤ maxLen := by
  obtain ⟨L, h1, _⟩ := h
  exact Own.cap h1
theorem LOwn.grown {w w' : World} {base : Nat} {a : Option Addr} {n c : Nat} {bs : List (List UInt8)} (h : LOwn w base a n c bs) (hg : w.grownBy w' none) : LOwn w' base a n c bs := by
  obtain ⟨L, h1, h2, h3, h4⟩ := h
  exact ⟨L, Own.grownNone h1 hg, h2, fun i h h' => (h3 i h h').grown hg, h4⟩
theorem LOwn.mono {w : World} {base base' : Nat} {a : Option Addr} {n c : Nat} {bs : List (List UInt8)} (h : LOwn w base a n c bs) (hb : base' ≤ base) : LOwn w base' a n c bs := by
  obtain ⟨L, h1, h2, h3, h4⟩ := h
  exact ⟨L, Own.mono h1 hb, h2, fun i h h' => (h3 i h h').mono hb, h4⟩

/-- the list of slices bs, told by its slices -/
structure LIs (w : World) (base : Nat) (a : Option Addr) (n c : Nat) (bs : List (List UInt8)) (L : List Sl) : Prop where
  outer : SOwn w base a n c L
  len : L.length = bs.length
  inner : ∀ i (h : i < L.length) (h' : i < bs.length), BOwn w base (L[i]).a (L[i]).n (L[i]).c bs[i]
  apart : Distinct L
theorem LOwn.is {w : World} {base : Nat} {a : Option Addr} {n c : Nat} {bs : List (List UInt8)} (h : LOwn w base a n c bs) : ∃ L, LIs w base a n c bs L := by
  obtain ⟨L, h1, h2, h3, h4⟩ := h
  exact ⟨L, h1, h2, h3, h4⟩
theorem LIs.grown {w w' : World} {base : Nat} {a : Option Addr} {n c : Nat} {bs : List (List UInt8)} {L : List Sl} (h : LIs w base a n c bs L) (hg : w.grownBy w' none) : LIs w' base a n c bs L :=
  ⟨Own.grownNone h.outer hg, h.len, fun i h1 h2 => (h.inner i h1 h2).grown hg, h.apart⟩

/-- one list more -/
theorem LIs.push {w w1 w2 : World} {base : Nat} {a : Option Addr} {n c : Nat} {bs : List (List UInt8)} {L : List Sl} (h : LIs w base a n c bs L) (hb : base ≤ w.heap.size) (hg : w.grownBy w1 none)
    {a' : Option Addr} {n' c' : Nat} {b : List UInt8} (ho : BOwn w1 w.heap.size a' n' c' b) {a2 : Option Addr} {c2 : Nat}
    (hs : Own w2 base 34 1 a2 (n + 1) c2 (L.map Sl.val ++ [.slice a' n' c'])) (hgr : GrewP w1 w2 a c a2 c2) : LOwn w2 base a2 (n + 1) c2 (bs ++ [b]) := by
  obtain ⟨h1, h2, h3, h4⟩ := h
  have h1' : SOwn w1 base a n c L := Own.grownNone h1 hg
  have hin : ∀ i (h : i < L.length) (h' : i < bs.length), BOwn w2 base (L[i]).a (L[i]).n (L[i]).c bs[i] := fun i h h' => Own.grewOther ((h3 i h h').grown hg) h1' hgr (by decide)
  have hnew : BOwn w2 base a' n' c' b := Own.grewOther (ho.mono hb) h1' hgr (by decide)
  refine ⟨L ++ [⟨a', n', c'⟩], ?_, by simp [h2], ?_, ?_⟩
  · unfold SOwn; rw [List.map_append]; exact hs
  · intro i hi hi'
    by_cases e : i < L.length
    · have e' : i < bs.length := by omega
      rw [List.getElem_append_left e, List.getElem_append_left e']
      exact hin i e e'
    · simp only [List.length_append, List.length_singleton] at hi
      obtain rfl : i = L.length := by omega
      have e2 : (L ++ [⟨a', n', c'⟩])[L.length] = (⟨a', n', c'⟩ : Sl) := by simp
      have e3 : (bs ++ [b])[L.length] = b := by simp [h2]
      rw [e2, e3]
      exact hnew
  · have old : ∀ i (hi : i < L.length) g, (L[i]).blk = some g → g < w.heap.size := by
      intro i hi g hgb
      have hbo := h3 i hi (by omega)
      obtain ⟨hc, ha⟩ := hbo.blk hgb
      obtain ⟨g', ha', _, hlt⟩ := Own.block hbo hc
      rw [ha] at ha'
      obtain rfl : g = g' := by simpa using ha'
      exact hlt
    have new : ∀ g, (⟨a', n', c'⟩ : Sl).blk = some g → w.heap.size ≤ g := by
      intro g hgb
      have hbo : BOwn w1 w.heap.size (⟨a', n', c'⟩ : Sl).a (⟨a', n', c'⟩ : Sl).n (⟨a', n', c'⟩ : Sl).c b := ho
      obtain ⟨hc, ha⟩ := hbo.blk hgb
      obtain ⟨g', ha', hlt, _⟩ := Own.block hbo hc
      rw [ha] at ha'
      obtain rfl : g = g' := by simpa using ha'
      exact hlt
    intro i j hi hj hij g hgi hgj
    simp only [List.length_append, List.length_singleton] at hi hj
    by_cases ei : i < L.length
    · by_cases ej : j < L.length
      · rw [List.getElem_append_left ei] at hgi
        rw [List.getElem_append_left ej] at hgj
        exact h4 i j ei ej hij g hgi hgj
      · obtain rfl : j = L.length := by omega
        rw [List.getElem_append_left ei] at hgi
        have e2 : (L ++ [⟨a', n', c'⟩])[L.length]'(by simp) = (⟨a', n', c'⟩ : Sl) := by simp
        rw [e2] at hgj
        have := old i ei g hgi
        have := new g hgj
        omega
    · obtain rfl : i = L.length := by omega
      have ej : j < L.length := by omega
      rw [List.getElem_append_left ej] at hgj
      have e2 : (L ++ [⟨a', n', c'⟩])[L.length]'(by simp) = (⟨a', n', c'⟩ : Sl) := by simp
      rw [e2] at hgi
      have := old j ej g hgj
      have := new g hgi
      omega

/-- a list of slices that lies somewhere, and the bytes that they hold -/
def LLies (w : World) (a : Option Addr) (L : List Sl) (bs : List (List UInt8)) : Prop :=
  Lies w a (L.map Sl.val) ∧ L.length = bs.length ∧ ∀ i (h : i < L.length) (h' : i < bs.length), BLies w (L[i]).a bs[i] ∧ (L[i]).n = (bs[i]).length

theorem LOwn.lies {w : World} {base : Nat} {a : Option Addr} {n c : Nat} {bs : List (List UInt8)} (h : LOwn w base a n c bs) : ∃ L, LLies w a L bs ∧ SOwn w base a n c L ∧ ∀ i (h : i < L.length) (h' : i < bs.length), BOwn w base (L[i]).a (L[i]).n (L[i]).c bs[i] := by
  obtain ⟨L, h1, h2, h3, h4⟩ := h
  refine ⟨L, ⟨?_, h2, fun i h h' => ⟨(h3 i h h').lies, (h3 i h h').len.symm⟩⟩, h1, h3⟩
  intro k hk
  obtain ⟨g, e, _, _, hc, _⟩ := Own.cell h1 k hk
  exact ⟨g, 0, e, by rw [Nat.zero_add, hc]⟩

theorem LLies.heap {w w' : World} {a : Option Addr} {L : List Sl} {bs : List (List UInt8)} (h : LLies w a L bs) (hk : ∀ b, b < w.heap.size → w'.heap[b]? = w.heap[b]?) : LLies w' a L bs := by
  refine ⟨fun k hk' => ?_, h.2.1, fun i hi hi' => ⟨((h.2.2 i hi hi').1).heap fun b _ _ hb => hk b hb, (h.2.2 i hi hi').2⟩⟩
  obtain ⟨b, off, e, hc⟩ := h.1 k hk'
  exact ⟨b, off, e, (World.cell?_of_block (hk b (World.block_lt_of_cell? w _ hc))).trans hc⟩
theorem LLies.grown {w w' : World} {a : Option Addr} {L : List Sl} {bs : List (List UInt8)} (h : LLies w a L bs) (hg : w.grownBy w' none) : LLies w' a L bs :=
  h.heap fun b hb => hg.block b hb (by simp)

end Go.Proofs.Ytblgdfamomlklaa
/- bytes.Clone: the same bytes in memory of its own. -/
namespace Go.Proofs.Ytblgdfamomlklaa
open Go.RowKit

set_option maxRecDepth 100000 in
set_option maxHeartbeats 400000 in
theorem clone_n (a : Option Addr) (c n : Nat) (l : List UInt8) (w : World) (ha : BLies w a l) (hl : l.length = n) (hn : n ≤ 4000000100) :
    Calls Try.prog 67 #[.slice a n c] w fun e w' => ∃ a' c', e = .returned (.slice a' n c') ∧ BOwn w' w.heap.size a' n c' l ∧ w.grownBy w' none := by
  have qT : ∀ (w : World) (a : Option Addr) (n c n' c' : Nat), (binOp .eql 34 (.slice a n c) (.slice none n' c')).run Try.prog w = .ok (.bool a.isNone) w := fun w a n c n' c' => Lib.run_eql_slice_nil w _ _ a n c n' c' Try.underlying34
  by_cases h0 : n = 0
  · subst h0
    obtain rfl : l = [] := List.eq_nil_of_length_eq_zero hl
    clear ha hl
    cases a with
    | none =>
      go_enter Try.func67, Try.ntmps67
      go_wp2
      go_ret
      exact ⟨none, 0, rfl, Own.nil _ _ _ _ _, World.grownBy.refl _ _⟩
    | some ad =>
      go_enter Try.func67, Try.ntmps67
      go_wp2
      go_ret
      exact ⟨_, _, rfl, Own.nil _ _ _ _ _, World.grownBy_alloc _ _ _⟩
  · obtain ⟨b, off, rfl⟩ := ha.addr (by omega)
    have HA := Lib.hid ha
    have HL := Lib.hid hl
    have hsz := Nat.le_succ w.heap.size
    clear ha hl
    go_enter Try.func67, Try.ntmps67
    go_wp2_with (at_builtin; refine wpList_app elB rfl (.tmp 5) (.tmp 6) rfl rfl (Own.nil _ w.heap.size _ _ _) ⟨b, off, none⟩ n c (l.map bval) rfl (by rw [List.length_map, HL.out, Nat.mul_one]) (HA.out.grown (World.grownBy_alloc _ _ _)).news (bval_one l) (by unfold maxLen; omega) (by omega) (by simp) (by omega) ?_; intro g cap w1 hown1 hgr)
    go_ret
    simp only [Nat.zero_add, List.nil_append] at hown1
    exact ⟨_, _, by simp, hown1, hgr.grew.grown (Own.nil _ w.heap.size 5 1 _) (World.grownBy_alloc w _ none) (Nat.le_refl _)⟩

end Go.Proofs.Ytblgdfamomlklaa
/- octet.Chunks and the function that it gives. -/
namespace Go.Proofs.Ytblgdfamomlklaa
open Go.RowKit Go.Shelf
attribute [local go_sem] Oper.semAt_some

/-- the pieces of a list, of Z + 1 bytes each, with their places -/
def chs (Z : Nat) (p : Nat) (l : List UInt8) : List (Nat × List UInt8) :=
  match l with
  | [] => []
  | x :: t => (p, (x :: t).take (Z + 1)) :: chs Z (p + min (Z + 1) (t.length + 1)) (t.drop Z)
termination_by l.length
decreasing_by simp; omega
theorem chs_nil (Z p : Nat) : chs Z p [] = [] := by rw [chs]
theorem chs_cons {Z p : Nat} {l : List UInt8} (h : l ≠ []) : chs Z p l = (p, l.take (Z + 1)) :: chs Z (p + min (Z + 1) l.length) (l.drop (Z + 1)) := by
  cases l with
  | nil => exact absurd rfl h
  | cons x t => rw [chs]; simp
/-- .. of a size -/
def chL (z : Int) (l : List UInt8) : List (Nat × List UInt8) := if z < 1 then [] else chs (z.toNat - 1) 0 l
/-- what came of a list of pieces -/
def flt (ps : List (Nat × List UInt8)) : List UInt8 := (ps.map (·.2)).flatten
theorem flt_nil : flt [] = [] := rfl
theorem flt_cons (x : Nat × List UInt8) (ps : List (Nat × List UInt8)) : flt (x :: ps) = x.2 ++ flt ps := by simp [flt]
theorem flt_app (ps qs : List (Nat × List UInt8)) : flt (ps ++ qs) = flt ps ++ flt qs := by simp [flt]
theorem flt_chs (Z : Nat) : ∀ (N p : Nat) (l : List UInt8), l.length ≤ N → flt (chs Z p l) = l := by
  intro N
  induction N with
  | zero => intro p l h; obtain rfl : l = [] := List.eq_nil_of_length_eq_zero (by omega); rw [chs_nil]; rfl
  | succ N ih =>
    intro p l h
    by_cases h0 : l = []
    · subst h0; rw [chs_nil]; rfl
    · rw [chs_cons h0, flt_cons, ih _ _ (by rw [List.length_drop]; omega)]
      exact List.take_append_drop _ _
/-- each piece stands where those ahead of it end -/
theorem chs_at (Z : Nat) : ∀ (ps : List (Nat × List UInt8)) (p t : Nat) (b : List UInt8) (r : List (Nat × List UInt8)) (l : List UInt8), ps ++ (t, b) :: r = chs Z p l → t = p + (flt ps).length
  | [], p, t, b, r, l, h => by
    by_cases h0 : l = []
    · subst h0; rw [chs_nil] at h; cases h
    · rw [chs_cons h0] at h
      simp only [List.nil_append, List.cons.injEq, Prod.mk.injEq] at h
      rw [h.1.1]; rfl
  | y :: ps, p, t, b, r, l, h => by
    by_cases h0 : l = []
    · subst h0; rw [chs_nil] at h; cases h
    · rw [chs_cons h0] at h
      simp only [List.cons_append, List.cons.injEq] at h
      have := chs_at Z ps _ t b r _ h.2
      rw [flt_cons, h.1, List.length_append, List.length_take, this]
      show _ = p + (min (Z + 1) l.length + (flt ps).length)
      omega

/-- a piece as it is told -/
structure Pce where
  at_ : Nat
  sl : Sl
  b : List UInt8
def Pce.vals (x : Pce) : Array Value := #[.int .i64 (x.at_ : Int), x.sl.val]
def Pce.pr (x : Pce) : Nat × List UInt8 := (x.at_, x.b)

/-- what the function that is given back holds -/
structure Chk (w : World) (B b1 b2 : Nat) (z : Int) (ao : Option Addr) (n co : Nat) (l : List UInt8) : Prop where
  size : Row w b1 3 #[.int .i64 z]
  box : Row w b2 34 #[.slice ao n co]
  own : BOwn w B ao n co l
  above : B ≤ b1 ∧ B ≤ b2
/-- its blocks -/
def Chk.S (b1 b2 : Nat) (ao : Option Addr) (co : Nat) (k : Nat) : Prop := k = b1 ∨ k = b2 ∨ In ao co k
/-- these lie as they lay -/
structure KeptS (S : Nat → Prop) (W W' : World) : Prop where
  size : W.heap.size ≤ W'.heap.size
  same : ∀ k, S k → k < W.heap.size → W'.heap[k]? = W.heap[k]?
theorem KeptS.refl (S : Nat → Prop) (W : World) : KeptS S W W := ⟨Nat.le_refl _, fun _ _ _ => rfl⟩
theorem KeptS.trans {S : Nat → Prop} {A B C : World} (h : KeptS S A B) (k : KeptS S B C) : KeptS S A C :=
  ⟨Nat.le_trans h.size k.size, fun i hi hl => (k.same i hi (Nat.lt_of_lt_of_le hl h.size)).trans (h.same i hi hl)⟩
theorem KeptS.of {S : Nat → Prop} {A B : World} (h : A.grownBy B none) : KeptS S A B := ⟨h.size, fun k _ hl => h.block k hl (by simp)⟩
theorem KeptS.put {S : Nat → Prop} (W : World) (l : Nat) (o' : Obj) (h : ¬ S l) : KeptS S W (W.putObj l o') :=
  ⟨(grownBy_putObj' W l o').size, fun k hk hl => World.putObj_heap_other (fun e => h (by first | exact e ▸ hk | exact e.symm ▸ hk))⟩
theorem KeptS.ch {S : Nat → Prop} {A B : World} {T : Nat → Prop} (h : Ch T A B) (hd : ∀ k, S k → ¬ T k) : KeptS S A B := ⟨h.size, fun k hk hl => h.block k hl (hd k hk)⟩
theorem Chk.kept {w w' : World} {B b1 b2 : Nat} {z : Int} {ao : Option Addr} {n co : Nat} {l : List UInt8} (h : Chk w B b1 b2 z ao n co l) (hk : KeptS (Chk.S b1 b2 ao co) w w') : Chk w' B b1 b2 z ao n co l :=
  ⟨(hk.same b1 (.inl rfl) h.size.lt).trans h.size, (hk.same b2 (.inr (.inl rfl)) h.box.lt).trans h.box, Own.kept' h.own fun h0 g e hl => hk.same g (.inr (.inr ⟨h0, e⟩)) hl, h.above⟩
theorem Chk.lt {w : World} {B b1 b2 : Nat} {z : Int} {ao : Option Addr} {n co : Nat} {l : List UInt8} (h : Chk w B b1 b2 z ao n co l) {k : Nat} (hk : Chk.S b1 b2 ao co k) : B ≤ k ∧ k < w.heap.size := by
  rcases hk with rfl | rfl | hk
  · exact ⟨h.above.1, h.size.lt⟩
  · exact ⟨h.above.2, h.box.lt⟩
  · exact Own.inn h.own hk

/-- what a round is told -/
structure ChOk (all : List (Nat × List UInt8)) (pre : List Pce) (x : Pce) (W0 W1 : World) : Prop where
  at_ : ∃ r, pre.map Pce.pr ++ x.pr :: r = all
  own : BOwn W1 W0.heap.size x.sl.a x.sl.n x.sl.c x.b
theorem ChOk.put {all : List (Nat × List UInt8)} {pre : List Pce} {x : Pce} {W0 W : World} (h : ChOk all pre x W0 W) (l : Nat) {o : Obj} (o' : Obj) (hl : W.heap[l]? = some o) (ho : o.isCells = false) : ChOk all pre x W0 (W.putObj l o') := by
  refine ⟨h.at_, ?_⟩
  rcases h.own.2 with h0 | ⟨g, cur, ha, hb, hh, rest⟩
  · exact ⟨h.own.1, .inl h0⟩
  · refine ⟨h.own.1, .inr ⟨g, cur, ha, hb, ?_, rest⟩⟩
    have hne : l ≠ g := fun e => by subst e; rw [hl] at hh; injection hh with hh; subst hh; cases ho
    first | exact (World.putObj_heap_other hne).trans hh | exact (World.putObj_heap_other hne.symm).trans hh

set_option maxRecDepth 100000 in
set_option maxHeartbeats 2000000 in
theorem chunks_n (a : Option Addr) (c n : Nat) (z : Int) (l : List UInt8) (w : World) (ha : BLies w a l) (hl : l.length = n) (hn : n ≤ 4000000100) :
    Calls Try.prog 49 #[.slice a n c, .int .i64 z] w fun e w' => ∃ b1 b2 ao co, e = .returned (.func (.func 68) #[] #[.pointer (some ⟨b1, 0, none⟩), .pointer (some ⟨b2, 0, none⟩)]) ∧
      Chk w' w.heap.size b1 b2 z ao n co l ∧ w.grownBy w' none := by
  obtain ⟨il, hi, hz, hsz, _⟩ := info_parts (show (Try.prog.info? 34).map (fun i => (i.zero, i.size, i.bytes)) = some (some (.slice none 0 0), 1, 24) by kernel_rfl)
  have HA := Lib.hid ha
  have HL := Lib.hid hl
  clear ha hl
  go_enter Try.func49, Try.ntmps49
  go_upto_region 1 with (refine wpList_box1 rfl rfl (.int .i64 z) rfl rfl ?_; intro W1 hs1 hg1 hr1; have HG1 := Lib.hid hg1; have HR1 := Lib.hid hr1; clear hs1 hg1 hr1)
  go_wp2_with (first | (go_at_call 67; refine (clone_n a c n l _ (HA.out.grown HG1.out) HL.out hn).mono ?_; rintro e W2 ⟨ao, co, rfl, ho, hg⟩; have HO := Lib.hid ho; have HG2 := Lib.hid hg; clear ho hg) | (refine wpList_fresh1 rfl rfl rfl rfl rfl hi hz hsz rfl (.slice ao n co) rfl rfl rfl ?_; intro W3 hs3 hg3 hr3; have HG3 := Lib.hid hg3; have HR3 := Lib.hid hr3; clear hs3 hg3 hr3))
  go_ret
  have h1 := HR1.out
  have h2 := HO.out
  have h3 := HR3.out
  have g1 := HG1.out
  have g2 := HG2.out
  have g3 := HG3.out
  exact ⟨_, _, ao, co, rfl, ⟨Row.grown (Row.grown h1 g2) g3, h3, BOwn.grown (BOwn.mono h2 g1.size) g3, Nat.le_refl _, Nat.le_trans g1.size g2.size⟩, grownBy_trans (grownBy_trans g1 g2) g3⟩

end Go.Proofs.Ytblgdfamomlklaa
/- Plain regions in a round of the wide fence; what cells that lay kept; lists collected in a round. -/
namespace Go.Proofs.Ytblgdfamomlklaa
open Go.RowKit Go.Shelf

theorem wpListIn_of {l n : Nat} {P : Program} {ops : Array Oper} {Q : Exit → Act → World → Prop} : ∀ (L : List Oper) (a : Act) (w : World), (∀ o ∈ L, ∀ c, o.op ≠ .defer c) →
    wpList P ops (QN fun a w => Q .normal a w) L a w → wpListIn (Fence.wide.inRound l) n P ops Q L a w
  | [], a, w, _, h => h.2
  | o :: rest, a, w, hd, h => by
    unfold wpList at h
    unfold wpListIn
    have hr : ∀ o ∈ rest, ∀ c, o.op ≠ .defer c := fun x hx => hd x (List.mem_cons_of_mem _ hx)
    by_cases hw : Region.wanted o (yielded ops a.tmps) = true
    · rw [if_pos hw] at h ⊢
      rcases h with h | ⟨_, h⟩
      · refine ⟨fun _ _ => trivial, ?_⟩
        rw [Oper.semAt_eq _ _ _ (hd o (List.mem_cons_self ..))]
        unfold Oper.wp at h
        generalize (execOp a.eval o).run P w = r at h ⊢
        cases r with
        | ok x w' =>
          cases x <;> simp only [Oper.upon, Oper.uponIn] at h ⊢
          case value u => exact wpListIn_of rest _ _ hr h
          case skip => exact wpListIn_of rest _ _ hr h
          case defer d => exact wpListIn_of rest _ _ hr h
          case enter f args =>
            refine ⟨fun e => (by cases e), calls_wide (h.mono fun e w'' he => ?_)⟩
            cases e with
            | returned u => exact wpListIn_of rest _ _ hr he
            | panicked c => cases he.1
            | outgrown => exact absurd he (not_lets _)
          case row row args => exact ⟨fun e => (by cases e), rows_wide (h.mono fun u w'' he => wpListIn_of rest _ _ hr he)⟩
        | halt x w' =>
          cases x <;> simp only [Oper.upon, Oper.uponIn] at h ⊢
          case panic u => cases h.1
      · exact absurd h (not_lets _)
    · rw [if_neg hw] at h ⊢
      exact ⟨fun _ _ => trivial, wpListIn_of rest _ _ hr h⟩
/-- a plain region, by the plain walk -/
theorem wpIn_regionP {l n : Nat} {P : Program} {L : List Oper} {Q : Exit → Act → World → Prop} {id : Nat} {a : Act} {w : World} (hnd : noDefer L.toArray = true)
    (h : wpList P L.toArray (QN fun a w => Q .normal a w) L a w) : (Code.region id L.toArray false).wpIn (Fence.wide.inRound l) n P Q a w := by
  refine wpIn_region_lit (wpListIn_of L a w (fun o ho c e => ?_) h)
  obtain ⟨i, hi, rfl⟩ := List.getElem_of_mem ho
  exact noDefer_at hnd (i := i) (by simp [hi]) c e

theorem Row.keptC {A B : World} {g : Nat} {t : TypeId} {cs : Array Value} (h : Row A g t cs) (hk : KeptC A B) : Row B g t cs := hk.same g _ h rfl
theorem Own.keptC {A B : World} {base : Nat} {e : TypeId} {size : Nat} {a : Option Addr} {n c : Nat} {xs : List Value} (h : Own A base e size a n c xs) (hk : KeptC A B) : Own B base e size a n c xs := by
  refine ⟨h.1, ?_⟩
  rcases h.2 with h0 | ⟨g, cur, ha, hb, hh, rest⟩
  · exact .inl h0
  · exact .inr ⟨g, cur, ha, hb, hk.same g _ hh rfl, rest⟩
theorem LIs.keptC {A B : World} {base : Nat} {a : Option Addr} {n c : Nat} {bs : List (List UInt8)} {L : List Sl} (h : LIs A base a n c bs L) (hk : KeptC A B) : LIs B base a n c bs L :=
  ⟨Own.keptC h.outer hk, h.len, fun i h1 h2 => Own.keptC (h.inner i h1 h2) hk, h.apart⟩
theorem LIs.nc {A B : World} {row : Option Nat} {b0 : Nat} {base : Nat} {a : Option Addr} {n c : Nat} {bs : List (List UInt8)} {L : List Sl} (h : LIs A base a n c bs L) (hg : A.grownBy B row) (hr : ∀ r, row = some r → b0 ≤ r ∧ ∃ o : Obj, A.heap[r]? = some o ∧ o.isCells = false) : LIs B base a n c bs L := by
  have hk : KeptC A B := ⟨hg.size, fun k o hko hoc => (hg.block k (Array.getElem?_eq_some_iff.1 hko).1 (fun e => by
    obtain ⟨_, o', ho', hc'⟩ := hr k e.symm
    rw [hko] at ho'
    injection ho' with ho'
    subst ho'
    rw [hoc] at hc'
    cases hc')).trans hko⟩
  exact h.keptC hk

/-- one list more, made since the others -/
theorem LIs.pushK {w w1 w2 : World} {base : Nat} {a : Option Addr} {n c : Nat} {bs : List (List UInt8)} {L : List Sl} (h : LIs w base a n c bs L) (hb : base ≤ w.heap.size) (hg : KeptC w w1)
    {a' : Option Addr} {n' c' : Nat} {b : List UInt8} (ho : BOwn w1 w.heap.size a' n' c' b) {a2 : Option Addr} {c2 : Nat}
    (hs : Own w2 base 34 1 a2 (n + 1) c2 (L.map Sl.val ++ [.slice a' n' c'])) (hgr : GrewP w1 w2 a c a2 c2) : LIs w2 base a2 (n + 1) c2 (bs ++ [b]) (L ++ [⟨a', n', c'⟩]) := by
  obtain ⟨h1, h2, h3, h4⟩ := h
  have h1' : SOwn w1 base a n c L := Own.keptC h1 hg
  have hin : ∀ i (h : i < L.length) (h' : i < bs.length), BOwn w2 base (L[i]).a (L[i]).n (L[i]).c bs[i] := fun i h h' => Own.grewOther (Own.keptC (h3 i h h') hg) h1' hgr (by decide)
  have hnew : BOwn w2 base a' n' c' b := Own.grewOther (ho.mono hb) h1' hgr (by decide)
  refine ⟨?_, by simp [h2], ?_, ?_⟩
  · unfold SOwn; rw [List.map_append]; exact hs
  · intro i hi hi'
    by_cases e : i < L.length
    · have e' : i < bs.length := by omega
      rw [List.getElem_append_left e, List.getElem_append_left e']
      exact hin i e e'
    · simp only [List.length_append, List.length_singleton] at hi
      obtain rfl : i = L.length := by omega
      have e2 : (L ++ [⟨a', n', c'⟩])[L.length] = (⟨a', n', c'⟩ : Sl) := by simp
      have e3 : (bs ++ [b])[L.length] = b := by simp [h2]
      rw [e2, e3]
      exact hnew
  · have old : ∀ i (hi : i < L.length) g, (L[i]).blk = some g → g < w.heap.size := by
      intro i hi g hgb
      have hbo := h3 i hi (by omega)
      obtain ⟨hc, ha⟩ := hbo.blk hgb
      obtain ⟨g', ha', _, hlt⟩ := Own.block hbo hc
      rw [ha] at ha'
      obtain rfl : g = g' := by simpa using ha'
      exact hlt
    have new : ∀ g, (⟨a', n', c'⟩ : Sl).blk = some g → w.heap.size ≤ g := by
      intro g hgb
      have hbo : BOwn w1 w.heap.size (⟨a', n', c'⟩ : Sl).a (⟨a', n', c'⟩ : Sl).n (⟨a', n', c'⟩ : Sl).c b := ho
      obtain ⟨hc, ha⟩ := hbo.blk hgb
      obtain ⟨g', ha', hlt, _⟩ := Own.block hbo hc
      rw [ha] at ha'
      obtain rfl : g = g' := by simpa using ha'
      exact hlt
    intro i j hi hj hij g hgi hgj
    simp only [List.length_append, List.length_singleton] at hi hj
    by_cases ei : i < L.length
    · by_cases ej : j < L.length
      · rw [List.getElem_append_left ei] at hgi
        rw [List.getElem_append_left ej] at hgj
        exact h4 i j ei ej hij g hgi hgj
      · obtain rfl : j = L.length := by omega
        rw [List.getElem_append_left ei] at hgi
        have e2 : (L ++ [⟨a', n', c'⟩])[L.length]'(by simp) = (⟨a', n', c'⟩ : Sl) := by simp
        rw [e2] at hgj
        have := old i ei g hgi
        have := new g hgj
        omega
    · obtain rfl : i = L.length := by omega
      have ej : j < L.length := by omega
      rw [List.getElem_append_left ej] at hgj
      have e2 : (L ++ [⟨a', n', c'⟩])[L.length]'(by simp) = (⟨a', n', c'⟩ : Sl) := by simp
      rw [e2] at hgi
      have := old j ej g hgj
      have := new g hgi
      omega
theorem LIs.lies {w : World} {base : Nat} {a : Option Addr} {n c : Nat} {bs : List (List UInt8)} {L : List Sl} (h : LIs w base a n c bs L) : LLies w a L bs := by
  refine ⟨?_, h.len, fun i h1 h2 => ⟨(h.inner i h1 h2).lies, (h.inner i h1 h2).len.symm⟩⟩
  intro k hk
  obtain ⟨g, e, _, _, hc, _⟩ := Own.cell h.outer k hk
  exact ⟨g, 0, e, by rw [Nat.zero_add, hc]⟩

theorem LIs.chS {w w' : World} {base : Nat} {a : Option Addr} {n c : Nat} {bs : List (List UInt8)} {L : List Sl} {S : Nat → Prop} (h : LIs w base a n c bs L) (hc : Ch S w w') (ho : ∀ g, In a c g → ¬ S g) (hi : ∀ i (hi : i < L.length) g, In (L[i]).a (L[i]).c g → ¬ S g) : LIs w' base a n c bs L :=
  ⟨Own.ch h.outer hc (fun h0 g e => ho g ⟨h0, e⟩), h.len, fun i h1 h2 => Own.ch (h.inner i h1 h2) hc (fun h0 g e => hi i h1 g ⟨h0, e⟩), h.apart⟩

/-- the caller's law, its act behind the assignment told by what is assigned -/
theorem wpIn_rangeOkA {F : Fence} {n : Nat} {P : Program} {α : Type} {g : Operand} {ps : Array Tmp} {assign body : Code} {Q : Exit → Act → World → Prop} {a : Act} {w : World}
    (asg : Array Value → α → Array Value)
    (hro : F.round = none) (h1 : 1 ≤ n) {gf : Nat} {lb : Array Value} (hg : a.eval g = .func (.func gf) #[] lb) (hFg : F.fn gf) (eg : ∀ args w, (callFunc gf args).run P w = .ok (.enter gf args) w)
    {encs : α → Array Value} {Kp : World → World → Prop} {Ok : List α → α → World → World → Prop} {S Sp : List α → Prop} {w0 : World} (hseq : SeqOk F (n - 1) P gf lb encs Kp Ok S Sp w0)
    (hKt : ∀ {A B C : World}, Kp A B → Kp B C → Kp A C) (hKb : ∀ (W : World) (l : Nat) (o o' : Obj), w.heap.size ≤ l → W.heap[l]? = some o → o.isCells = false → o.isWalk = false → Kp W (W.putObj l o'))
    (hOk : ∀ pre x (W0 W : World) (l : Nat) (o o' : Obj), Ok pre x W0 W → W.heap[l]? = some o → o.isCells = false → Ok pre x W0 (W.putObj l o'))
    (hb0 : Below w0.heap.size w0 w) (hps : ∀ x, (encs x).size = ps.size)
    (I : List α → World → Prop) (Ix : Code → List α → World → Prop) (hI : OwnFrom w.heap.size I) (hIx : ∀ c, OwnFrom w.heap.size (Ix c)) (h0 : I [] w)
    (hassign : ∀ (l : Nat) (x : α) (W : World) (K : Act → World → Prop), K { tmps := asg a.tmps x, defers := [] } W →
      assign.wpIn (F.inRound l) (n - 1 - 1) P (Exit.then K (fun _ _ _ => False)) { tmps := (ps.zip (encs x)).foldl (fun t (p, v) => t.setIfInBounds p v) a.tmps, defers := [] } W)
    (hbody : ∀ (l : Nat) (pre : List α) (x : α) (W0 W : World), I pre W0 → I pre W → KeptC W0 W → Ok pre x W0 W → body.wpIn (F.inRound l) (n - 1 - 1) P (ownPostG w.heap.size Kp I Ix (pre ++ [x]) W) { tmps := asg a.tmps x, defers := [] } W)
    (hdone : ∀ (D : Nat) (xs : List α) (W : World), w.heap.size ≤ D → S xs → I xs W → W.heap[D]? = some (.deferred (some [])) → Q .normal { a with defers := { target := .collected D, args := #[] } :: a.defers } W)
    (hstop : ∀ (D : Nat) (c : Code) (pre : List α) (W : World), w.heap.size ≤ D → Sp pre → Ix c pre W → W.heap[D]? = some (.deferred (some [])) → c.wpIn F n P Q { a with defers := { target := .collected D, args := #[] } :: a.defers } W) :
    (Code.rangeFunc g ps assign body).wpIn F n P Q a w :=
  wpIn_rangeOk hro h1 hg hFg eg hseq hKt hKb hOk hb0 hps I Ix hI hIx h0 _ hassign hbody hdone hstop

theorem chs_len (Z : Nat) : ∀ (N p : Nat) (l : List UInt8), l.length ≤ N → (chs Z p l).length ≤ l.length := by
  intro N
  induction N with
  | zero => intro p l h; obtain rfl : l = [] := List.eq_nil_of_length_eq_zero (by omega); rw [chs_nil]; exact Nat.le_refl _
  | succ N ih =>
    intro p l h
    by_cases h0 : l = []
    · subst h0; rw [chs_nil]; exact Nat.le_refl _
    · have hp := List.length_pos_iff.2 h0
      rw [chs_cons h0, List.length_cons]
      have := ih (p + min (Z + 1) l.length) (l.drop (Z + 1)) (by rw [List.length_drop]; omega)
      rw [List.length_drop] at this
      omega
theorem flt_pce (xs : List Pce) : (xs.map Pce.b).flatten = flt (xs.map Pce.pr) := by
  unfold flt
  rw [List.map_map]
  rfl

end Go.Proofs.Ytblgdfamomlklaa
/- octet.Big of a uint64. -/
namespace Go.Proofs.Ytblgdfamomlklaa
open Go.RowKit

/-- the k bytes of a number, the highest first -/
def bigL : Nat → Nat → List UInt8
  | 0, _ => []
  | k + 1, x => bigL k (x / 256) ++ [UInt8.ofNat x]
theorem bigL_length (k : Nat) : ∀ x, (bigL k x).length = k := by
  induction k with
  | zero => intro x; rfl
  | succ k ih => intro x; simp [bigL, ih]
theorem u8i (n : Nat) : ((UInt8.ofNat n).toNat : Int) = (n : Int) % 256 := by
  rw [UInt8.toNat_ofNat']; omega
theorem val_u8 {a b : Int} (h : a = b) : Value.int .u8 a = Value.int .u8 b := by rw [h]

set_option maxRecDepth 100000 in
set_option maxHeartbeats 400000 in
theorem width64_any (w : World) : Calls Try.prog 44 #[] w fun e w' => e = .returned (.int .i64 8) ∧ w = w' := by
  go_enter Try.func44, Try.ntmps44
  go_wp2
  go_rounds 9
  go_ret
  exact ⟨rfl, rfl⟩



set_option maxRecDepth 100000 in
set_option maxHeartbeats 400000 in
theorem big64_any (x : Nat) (hx : x < 18446744073709551616) (w : World) : Calls Try.prog 35 #[.int .u64 x] w fun e w' => e = .returned (.slice (some ⟨w.heap.size, 0, none⟩) 8 8) ∧ w' = w.alloc (.cells ((bigL 8 x).map bval).toArray 5) := by
  have hmk : ∀ w, (Instr.makeSlice 34 (.int .i64 8) (.int .i64 8)).run Try.prog w = .ok (.slice (some ⟨w.heap.size, 0, none⟩) 8 8) (w.alloc (.cells #[.int .u8 0, .int .u8 0, .int .u8 0, .int .u8 0, .int .u8 0, .int .u8 0, .int .u8 0, .int .u8 0] 5)) := fun _ => by kernel_rfl
  go_enter Try.func35, Try.ntmps35
  go_wp2_with (go_at_call 44; refine (width64_any _).mono ?_; rintro e w' ⟨rfl, rfl⟩)
  go_rounds 9
  go_ret
  refine ⟨rfl, ?_⟩
  refine congrArg (fun c : List Value => w.alloc (.cells c.toArray 5)) ?_
  simp only [bigL, List.nil_append, List.cons_append, List.map_cons, List.map_nil, bval, u8i]
  repeat (first | (refine congr (congrArg List.cons (val_u8 (by omega))) ?_) | rfl)

end Go.Proofs.Ytblgdfamomlklaa
/- An array by value: its i-th element; and by address. -/
namespace Go.Proofs.Ytblgdfamomlklaa
open Go.RowKit

theorem run_index_arr {P : Program} {t e : TypeId} {n : Nat} {kk : IntKind} (h : P.underlying t = some (.array n e)) (he : P.underlying e = some (.int kk)) (hsz : (P.info? e).map (·.size) = some 1)
    (cs : Array Value) (k : IntKind) (i : Nat) (v : Value) (hi : i < n) (hv : cs[i]? = some v) (w : World) : (Instr.index t (.agg cs) (.int k (i : Int))).run P w = .ok v w := by
  cases hq : P.info? e with
  | none => simp [hq] at hsz
  | some x =>
    have hx : x.size = 1 := by simp [hq] at hsz; exact hsz
    have hni : ¬ n ≤ i := by omega
    simp [Instr.index, run_underlying h, asIntOf, sizeOf, typeInfo, hq, hx, part, isAgg, run_underlying he, hv, hni, Result.andThen]

end Go.Proofs.Ytblgdfamomlklaa
/- ctr.Counter and the document's. -/
namespace Go.Proofs.Ytblgdfamomlklaa
open Go.RowKit

/-- the block of a number -/
def ctrL (x : Nat) : List UInt8 := [0, 0, 0, 0, 0, 0, 0, 0] ++ bigL 8 x
def ctrC (x : Nat) : Array Value := ((ctrL x).map bval).toArray
def ctrV (x : Nat) : Value := .agg (ctrC x)
theorem ctrC_size (x : Nat) : (ctrC x).size = 16 := rfl
theorem ctrC_one (x : Nat) : (ctrC x).all (·.oneCell') = true := by simp [ctrC, ctrL, bigL, bval, Value.oneCell']
theorem size24 : (Try.prog.info? 24).map (·.size) = some 16 := by kernel_rfl

/-- a row of cells written into cells from o on -/
def laidOn (cur : Array Value) (o : Nat) : List Value → Array Value
  | [] => cur
  | v :: r => laidOn (cur.setIfInBounds o v) (o + 1) r
theorem setCells_heap (g : Nat) (t : TypeId) (fr : Nat × Nat) : ∀ (xs : List Value) (o : Nat) (w : World) (cur : Array Value), w.heap[g]? = some (.cells cur t fr) → (w.setCells g o xs).heap[g]? = some (.cells (laidOn cur o xs) t fr)
  | [], _, _, _, h => h
  | v :: r, o, w, cur, h => by
    refine setCells_heap g t fr r (o + 1) (w.setCell ⟨g, o, none⟩ v) (cur.setIfInBounds o v) ?_
    simp only [World.setCell, Array.getElem?_modify, ↓reduceIte, h, Option.map_some]
    simp
theorem grownBy_setCells (g : Nat) : ∀ (xs : List Value) (o : Nat) (w : World), w.grownBy (w.setCells g o xs) (some g)
  | [], _, _ => World.grownBy.refl _ _
  | v :: r, o, w => grownBy_trans (grownBy_setCell w g o v) (grownBy_setCells g r (o + 1) _)
theorem laid_ctr (x : Nat) : laidOn (#[.int .u8 0, .int .u8 0, .int .u8 0, .int .u8 0, .int .u8 0, .int .u8 0, .int .u8 0, .int .u8 0, .int .u8 0, .int .u8 0, .int .u8 0, .int .u8 0, .int .u8 0, .int .u8 0, .int .u8 0, .int .u8 0] : Array Value) 8 ((bigL 8 x).map bval) = ctrC x := by simp [ctrC, ctrL, bigL, laidOn, bval]

/-- the copying -/
theorem copy_ctr (x : Nat) (w : World) : ∃ w4, (Builtin.copy_ #[34, 34] 3 #[.slice (some ⟨w.heap.size + 1, 8, none⟩) 8 8, .slice (some ⟨w.heap.size + 1 + 1, 0, none⟩) 8 8]).run Try.prog ((((w.alloc (.cells (#[.int .u8 0, .int .u8 0, .int .u8 0, .int .u8 0, .int .u8 0, .int .u8 0, .int .u8 0, .int .u8 0, .int .u8 0, .int .u8 0, .int .u8 0, .int .u8 0, .int .u8 0, .int .u8 0, .int .u8 0, .int .u8 0] : Array Value) 24)).alloc (.cells (#[.int .u8 0, .int .u8 0, .int .u8 0, .int .u8 0, .int .u8 0, .int .u8 0, .int .u8 0, .int .u8 0, .int .u8 0, .int .u8 0, .int .u8 0, .int .u8 0, .int .u8 0, .int .u8 0, .int .u8 0, .int .u8 0] : Array Value) 24)).alloc (.cells ((bigL 8 x).map bval).toArray 5)).drew) = .ok (.int .i64 8) w4 ∧
    w4.heap[w.heap.size + 1]? = some (.cells (ctrC x) 24 (0, 0)) ∧ w4.heap[w.heap.size]? = some (.cells (#[.int .u8 0, .int .u8 0, .int .u8 0, .int .u8 0, .int .u8 0, .int .u8 0, .int .u8 0, .int .u8 0, .int .u8 0, .int .u8 0, .int .u8 0, .int .u8 0, .int .u8 0, .int .u8 0, .int .u8 0, .int .u8 0] : Array Value) 24 (0, 0)) ∧ w.grownBy w4 none := by
  have e0 : ((((w.alloc (.cells (#[.int .u8 0, .int .u8 0, .int .u8 0, .int .u8 0, .int .u8 0, .int .u8 0, .int .u8 0, .int .u8 0, .int .u8 0, .int .u8 0, .int .u8 0, .int .u8 0, .int .u8 0, .int .u8 0, .int .u8 0, .int .u8 0] : Array Value) 24)).alloc (.cells (#[.int .u8 0, .int .u8 0, .int .u8 0, .int .u8 0, .int .u8 0, .int .u8 0, .int .u8 0, .int .u8 0, .int .u8 0, .int .u8 0, .int .u8 0, .int .u8 0, .int .u8 0, .int .u8 0, .int .u8 0, .int .u8 0] : Array Value) 24)).alloc (.cells ((bigL 8 x).map bval).toArray 5)).drew).heap[w.heap.size]? = some (.cells (#[.int .u8 0, .int .u8 0, .int .u8 0, .int .u8 0, .int .u8 0, .int .u8 0, .int .u8 0, .int .u8 0, .int .u8 0, .int .u8 0, .int .u8 0, .int .u8 0, .int .u8 0, .int .u8 0, .int .u8 0, .int .u8 0] : Array Value) 24 (0, 0)) := by
    show ((((w.alloc _).alloc _).alloc _)).heap[w.heap.size]? = _
    rw [Below.heap_alloc _ _ _ (by simp; omega), Below.heap_alloc _ _ _ (by simp)]; exact heap_alloc_new w _
  have e1 : ((((w.alloc (.cells (#[.int .u8 0, .int .u8 0, .int .u8 0, .int .u8 0, .int .u8 0, .int .u8 0, .int .u8 0, .int .u8 0, .int .u8 0, .int .u8 0, .int .u8 0, .int .u8 0, .int .u8 0, .int .u8 0, .int .u8 0, .int .u8 0] : Array Value) 24)).alloc (.cells (#[.int .u8 0, .int .u8 0, .int .u8 0, .int .u8 0, .int .u8 0, .int .u8 0, .int .u8 0, .int .u8 0, .int .u8 0, .int .u8 0, .int .u8 0, .int .u8 0, .int .u8 0, .int .u8 0, .int .u8 0, .int .u8 0] : Array Value) 24)).alloc (.cells ((bigL 8 x).map bval).toArray 5)).drew).heap[w.heap.size + 1]? = some (.cells (#[.int .u8 0, .int .u8 0, .int .u8 0, .int .u8 0, .int .u8 0, .int .u8 0, .int .u8 0, .int .u8 0, .int .u8 0, .int .u8 0, .int .u8 0, .int .u8 0, .int .u8 0, .int .u8 0, .int .u8 0, .int .u8 0] : Array Value) 24 (0, 0)) := by
    show ((((w.alloc _).alloc _).alloc _)).heap[w.heap.size + 1]? = _
    rw [Below.heap_alloc _ _ _ (by simp)]
    have := heap_alloc_new (w.alloc (.cells (#[.int .u8 0, .int .u8 0, .int .u8 0, .int .u8 0, .int .u8 0, .int .u8 0, .int .u8 0, .int .u8 0, .int .u8 0, .int .u8 0, .int .u8 0, .int .u8 0, .int .u8 0, .int .u8 0, .int .u8 0, .int .u8 0] : Array Value) 24)) (.cells (#[.int .u8 0, .int .u8 0, .int .u8 0, .int .u8 0, .int .u8 0, .int .u8 0, .int .u8 0, .int .u8 0, .int .u8 0, .int .u8 0, .int .u8 0, .int .u8 0, .int .u8 0, .int .u8 0, .int .u8 0, .int .u8 0] : Array Value) 24)
    rw [World.size_alloc] at this
    exact this
  have e2 : ((((w.alloc (.cells (#[.int .u8 0, .int .u8 0, .int .u8 0, .int .u8 0, .int .u8 0, .int .u8 0, .int .u8 0, .int .u8 0, .int .u8 0, .int .u8 0, .int .u8 0, .int .u8 0, .int .u8 0, .int .u8 0, .int .u8 0, .int .u8 0] : Array Value) 24)).alloc (.cells (#[.int .u8 0, .int .u8 0, .int .u8 0, .int .u8 0, .int .u8 0, .int .u8 0, .int .u8 0, .int .u8 0, .int .u8 0, .int .u8 0, .int .u8 0, .int .u8 0, .int .u8 0, .int .u8 0, .int .u8 0, .int .u8 0] : Array Value) 24)).alloc (.cells ((bigL 8 x).map bval).toArray 5)).drew).heap[w.heap.size + 1 + 1]? = some (.cells ((bigL 8 x).map bval).toArray 5 (0, 0)) := by
    show ((((w.alloc _).alloc _).alloc _)).heap[w.heap.size + 1 + 1]? = _
    have := heap_alloc_new ((w.alloc (.cells (#[.int .u8 0, .int .u8 0, .int .u8 0, .int .u8 0, .int .u8 0, .int .u8 0, .int .u8 0, .int .u8 0, .int .u8 0, .int .u8 0, .int .u8 0, .int .u8 0, .int .u8 0, .int .u8 0, .int .u8 0, .int .u8 0] : Array Value) 24)).alloc (.cells (#[.int .u8 0, .int .u8 0, .int .u8 0, .int .u8 0, .int .u8 0, .int .u8 0, .int .u8 0, .int .u8 0, .int .u8 0, .int .u8 0, .int .u8 0, .int .u8 0, .int .u8 0, .int .u8 0, .int .u8 0, .int .u8 0] : Array Value) 24)) (.cells ((bigL 8 x).map bval).toArray 5)
    rw [World.size_alloc, World.size_alloc] at this
    exact this
  have g0 : w.grownBy ((((w.alloc (.cells (#[.int .u8 0, .int .u8 0, .int .u8 0, .int .u8 0, .int .u8 0, .int .u8 0, .int .u8 0, .int .u8 0, .int .u8 0, .int .u8 0, .int .u8 0, .int .u8 0, .int .u8 0, .int .u8 0, .int .u8 0, .int .u8 0] : Array Value) 24)).alloc (.cells (#[.int .u8 0, .int .u8 0, .int .u8 0, .int .u8 0, .int .u8 0, .int .u8 0, .int .u8 0, .int .u8 0, .int .u8 0, .int .u8 0, .int .u8 0, .int .u8 0, .int .u8 0, .int .u8 0, .int .u8 0, .int .u8 0] : Array Value) 24)).alloc (.cells ((bigL 8 x).map bval).toArray 5)).drew) none := grownBy_trans (grownBy_al (grownBy_al (World.grownBy_alloc _ _ _) _) _) (grownBy_drewN _ 1 none)
  generalize ((((w.alloc (.cells (#[.int .u8 0, .int .u8 0, .int .u8 0, .int .u8 0, .int .u8 0, .int .u8 0, .int .u8 0, .int .u8 0, .int .u8 0, .int .u8 0, .int .u8 0, .int .u8 0, .int .u8 0, .int .u8 0, .int .u8 0, .int .u8 0] : Array Value) 24)).alloc (.cells (#[.int .u8 0, .int .u8 0, .int .u8 0, .int .u8 0, .int .u8 0, .int .u8 0, .int .u8 0, .int .u8 0, .int .u8 0, .int .u8 0, .int .u8 0, .int .u8 0, .int .u8 0, .int .u8 0, .int .u8 0, .int .u8 0] : Array Value) 24)).alloc (.cells ((bigL 8 x).map bval).toArray 5)).drew) = W at *
  refine ⟨_, run_copy_cells (P := Try.prog) W _ _ _ 5 (w.heap.size + 1) 8 8 8 ⟨w.heap.size + 1 + 1, 0, none⟩ 8 8 ((bigL 8 x).map bval) Try.underlying34 (by kernel_rfl) rfl ?_ ?_ ?_ ?_, ?_, ?_, ?_⟩
  · intro j v hj
    have ha : (⟨w.heap.size + 1 + 1, 0, none⟩ : Addr).add j = ⟨w.heap.size + 1 + 1, j, none⟩ := by unfold Addr.add; split <;> simp_all
    rw [ha]
    simp [World.cell?, e2, hj]
  · intro j hj
    have : j < 8 := hj
    simp [World.cell?, e1]
    omega
  · intro j hj
    simp [World.frozen?, e1]
  · intro v hv
    obtain ⟨y, _, rfl⟩ := List.mem_map.1 hv
    rfl
  · rw [← laid_ctr]; exact setCells_heap _ _ _ _ _ _ _ e1
  · rw [World.heap_setCells_other _ _ _ _ (Array.getElem?_eq_some_iff.1 e0).1 (by omega)]; exact e0
  · exact grownBy_old g0 (grownBy_setCells _ _ _ _) (by omega)

set_option maxRecDepth 100000 in
set_option maxHeartbeats 1000000 in
theorem counter_n (x : Nat) (hx : x < 18446744073709551616) (w : World) : Calls Try.prog 12 #[.int .u64 x] w fun e w' => e = .returned (.agg (ctrC x)) ∧ w.grownBy w' none := by
  obtain ⟨w4, hr, h1, h0, hg⟩ := copy_ctr x w
  go_enter Try.func12, Try.ntmps12
  go_wp2_with fail
  go_region_with (go_at_call 35; refine (big64_any x hx _).mono ?_; rintro e w' ⟨rfl, rfl⟩)
  go_wp2_with (first | (refine wpList_load_row rfl 24 _ rfl (w.heap.size + 1) rfl 24 (ctrC x) (0, 0) _ h1 Try.underlying24 rfl (by rw [size24, ctrC_size]) ?_) | (refine wpList_store_row rfl 24 _ _ rfl w.heap.size (ctrC x) rfl rfl 24 _ h0 (by rw [size24, ctrC_size]) (by rw [ctrC_size]; rfl) (ctrC_one x) ?_))
  refine bodyPost_ret (v := .agg (ctrC x)) (results_cell_row rfl _ _ w.heap.size 24 (ctrC x) (0, 0) _ rfl (setRow_heap _ _ _ _ _ _ h0) Try.underlying24 rfl (by rw [size24, ctrC_size])) rfl ⟨rfl, ?_⟩
  exact grownBy_old hg (grownBy_setRow _ _ _) (Nat.le_refl _)

set_option maxRecDepth 100000 in
set_option maxHeartbeats 1000000 in
theorem refCounter_n (x : Nat) (hx : x < 18446744073709551616) (w : World) : Calls Try.prog 13 #[.int .u64 x] w fun e w' => e = .returned (.agg (ctrC x)) ∧ w.grownBy w' none := by
  go_enter Try.func13, Try.ntmps13
  go_wp2_with fail
  go_rounds 9
  refine bodyPost_ret (v := .agg (ctrC x)) (results_cell_row rfl _ _ w.heap.size 24 (ctrC x) (0, 0) _ rfl ?_ Try.underlying24 rfl (by rw [size24, ctrC_size])) rfl ⟨rfl, ?_⟩
  · rw [Below.heap_alloc _ _ _ (by simp), heap_alloc_new]
    refine congrArg (fun c : List Value => some (Obj.cells c.toArray 24 (0, 0))) ?_
    simp only [ctrL, bigL, List.nil_append, List.cons_append, List.map_cons, List.map_nil, bval, u8i]
    repeat (first | (refine congr (congrArg List.cons (val_u8 (by first | rfl | omega))) ?_) | rfl)
  · exact grownBy_al (World.grownBy_alloc _ _ _) _

end Go.Proofs.Ytblgdfamomlklaa
/- Blocks of bytes in memory: one block, its cells told by a list. -/
namespace Go.Proofs.Ytblgdfamomlklaa
open Go.RowKit

theorem size_state : (Try.prog.info? 95).map (·.size) = some 16 := by kernel_rfl
theorem size_block : (Try.prog.info? 24).map (·.size) = some 16 := by kernel_rfl

theorem cellsB_size (l : List UInt8) : (cellsB l).size = l.length := by simp [cellsB]
theorem cellsB_one (l : List UInt8) : (cellsB l).all (·.oneCell') = true := by simp [cellsB, bval, Value.oneCell']
theorem cellsB_get (l : List UInt8) (j : Nat) (h : j < l.length) : (cellsB l)[j]? = some (.int .u8 (((l.getD j 0)).toNat : Int)) := by simp [cellsB, h, bval]
theorem cellsB_set (l : List UInt8) (j : Nat) (x : UInt8) : (cellsB l).setIfInBounds j (.int .u8 (x.toNat : Int)) = cellsB (l.set j x) := by
  unfold cellsB
  rw [List.map_set, ← List.setIfInBounds_toArray]
  rfl

/-- the block g holds these bytes, and nothing else -/
def Blk (w : World) (g : Nat) (t : TypeId) (l : List UInt8) : Prop := w.heap[g]? = some (.cells (cellsB l) t (0, 0))
section
variable {w w' : World} {g : Nat} {t : TypeId} {l : List UInt8}
theorem Blk.lt (h : Blk w g t l) : g < w.heap.size := (Array.getElem?_eq_some_iff.1 h).1
theorem Blk.cell (h : Blk w g t l) (n : Nat) (hn : l.length = n) : ∀ j, j < n → w.cell? ⟨g, j, none⟩ = some (.int .u8 ((l.getD j 0).toNat : Int)) := by
  intro j hj
  have h' : w.heap[g]? = some (.cells (cellsB l) t (0, 0)) := h
  simp only [World.cell?, h']
  exact cellsB_get l j (by omega)
theorem Blk.free (h : Blk w g t l) : ∀ j, w.frozen? ⟨g, j, none⟩ = false := by
  intro j
  have h' : w.heap[g]? = some (.cells (cellsB l) t (0, 0)) := h
  simp [World.frozen?, h']
theorem Blk.set (h : Blk w g t l) (j : Nat) (x : UInt8) : Blk (w.setCell ⟨g, j, none⟩ (.int .u8 (x.toNat : Int))) g t (l.set j x) := by
  have h' : w.heap[g]? = some (.cells (cellsB l) t (0, 0)) := h
  unfold Blk
  simp only [World.setCell, Array.getElem?_modify, ↓reduceIte, h', Option.map_some]
  simp [cellsB_set]
theorem Blk.other (h : Blk w g t l) {g' j : Nat} {v : Value} (hne : g ≠ g') : Blk (w.setCell ⟨g', j, none⟩ v) g t l := (Below.heap_setCell _ _ _ _ hne).trans h
theorem Blk.grown (h : Blk w g t l) {r : Option Nat} (hg : w.grownBy w' r) (hne : r ≠ some g) : Blk w' g t l := (hg.block g h.lt (by simpa using fun e => hne e.symm)).trans h
theorem Blk.new (w : World) (t : TypeId) (l : List UInt8) : Blk (w.alloc (.cells (cellsB l) t)) w.heap.size t l := heap_alloc_new w _
theorem Blk.dr (h : Blk w g t l) : Blk w.drew g t l := h
theorem Blk.drewN (h : Blk w g t l) (n : Nat) : Blk (w.drewN n) g t l := h
end
theorem grownBy_d1 {a b : World} {r : Option Nat} (h : a.grownBy b r) : a.grownBy b.drew r := ⟨h.os, h.tape, h.output, h.size, h.block⟩
def z16 : List UInt8 := [0, 0, 0, 0, 0, 0, 0, 0, 0, 0, 0, 0, 0, 0, 0, 0]
/-- three blocks, made in a row -/
theorem three (w : World) (c1 c2 c3 : List UInt8) (t1 t2 t3 : TypeId) :
    Blk (((w.alloc (.cells (cellsB c1) t1)).alloc (.cells (cellsB c2) t2)).alloc (.cells (cellsB c3) t3)) w.heap.size t1 c1 ∧ Blk (((w.alloc (.cells (cellsB c1) t1)).alloc (.cells (cellsB c2) t2)).alloc (.cells (cellsB c3) t3)) (w.heap.size + 1) t2 c2 ∧
    Blk (((w.alloc (.cells (cellsB c1) t1)).alloc (.cells (cellsB c2) t2)).alloc (.cells (cellsB c3) t3)) (w.heap.size + 1 + 1) t3 c3 ∧ w.grownBy (((w.alloc (.cells (cellsB c1) t1)).alloc (.cells (cellsB c2) t2)).alloc (.cells (cellsB c3) t3)) none := by
  have h1 := Blk.new w t1 c1
  have h2 := Blk.new (w.alloc (.cells (cellsB c1) t1)) t2 c2
  have h3 := Blk.new ((w.alloc (.cells (cellsB c1) t1)).alloc (.cells (cellsB c2) t2)) t3 c3
  have g1 := World.grownBy_alloc w (.cells (cellsB c1) t1) none
  have g2 := World.grownBy_alloc (w.alloc (.cells (cellsB c1) t1)) (.cells (cellsB c2) t2) none
  have g3 := World.grownBy_alloc ((w.alloc (.cells (cellsB c1) t1)).alloc (.cells (cellsB c2) t2)) (.cells (cellsB c3) t3) none
  rw [World.size_alloc] at h2 h3
  rw [World.size_alloc] at h3
  exact ⟨(h1.grown g2 (by simp)).grown g3 (by simp), h2.grown g3 (by simp), h3, grownBy_trans (grownBy_trans g1 g2) g3⟩
theorem two (w : World) (c1 c2 : List UInt8) (t1 t2 : TypeId) :
    Blk ((w.alloc (.cells (cellsB c1) t1)).alloc (.cells (cellsB c2) t2)) w.heap.size t1 c1 ∧ Blk ((w.alloc (.cells (cellsB c1) t1)).alloc (.cells (cellsB c2) t2)) (w.heap.size + 1) t2 c2 ∧ w.grownBy ((w.alloc (.cells (cellsB c1) t1)).alloc (.cells (cellsB c2) t2)) none := by
  have h1 := Blk.new w t1 c1
  have h2 := Blk.new (w.alloc (.cells (cellsB c1) t1)) t2 c2
  have g1 := World.grownBy_alloc w (.cells (cellsB c1) t1) none
  have g2 := World.grownBy_alloc (w.alloc (.cells (cellsB c1) t1)) (.cells (cellsB c2) t2) none
  rw [World.size_alloc] at h2
  exact ⟨h1.grown g2 (by simp), h2, grownBy_trans g1 g2⟩

theorem i64_nat (n : Nat) (h : n ≤ 4611686018427387904) : IntKind.i64.wrap (n : Int) = (n : Int) := IntWalk.i64_in _ (by omega)

/-- so many rounds of a change -/
def iterU (f : Nat → List UInt8 → List UInt8) (o : List UInt8) : Nat → List UInt8
  | 0 => o
  | k + 1 => f k (iterU f o k)
theorem iterU_len {f : Nat → List UInt8 → List UInt8} {o : List UInt8} (hf : ∀ k l, (f k l).length = l.length) : ∀ k, (iterU f o k).length = o.length
  | 0 => rfl
  | k + 1 => (hf k _).trans (iterU_len hf k)

end Go.Proofs.Ytblgdfamomlklaa
/- aes: Spread, Gather; the document's. -/
namespace Go.Proofs.Ytblgdfamomlklaa
open Go.RowKit

/-- the spreading, step by step -/
def spF (l : List UInt8) (k : Nat) (o : List UInt8) : List UInt8 := o.set (k % 4 * 4 + k / 4) (l.getD k 0)
theorem spF_len (l : List UInt8) : ∀ k o, (spF l k o).length = o.length := fun k o => by simp [spF]
theorem sp_end {l : List UInt8} (hl : l.length = 16) : iterU (spF l) z16 16 = trL l := by
  obtain ⟨x0, x1, x2, x3, x4, x5, x6, x7, x8, x9, x10, x11, x12, x13, x14, x15, rfl⟩ := ex16 hl
  rfl

set_option maxRecDepth 100000 in
set_option maxHeartbeats 1000000 in
theorem spread_n (l : List UInt8) (hl : l.length = 16) (w : World) : Calls Try.prog 56 #[aggB l] w fun e w' => e = .returned (aggB (trL l)) ∧ w.grownBy w' none := by
  unfold aggB
  have hidx : ∀ (j : Nat) (w : World), j < 16 → (Instr.index 24 (.agg (cellsB l)) (.int .i64 (j : Int))).run Try.prog w = .ok (.int .u8 ((l.getD j 0).toNat : Int)) w :=
    fun j w hj => run_index_arr (k := .i64) Try.underlying24 Try.underlying5 (by kernel_rfl) _ _ _ hj (cellsB_get l j (by omega)) w
  obtain ⟨hb, hr, hs, hg⟩ := three w l z16 z16 24 95 95
  have HR := Lib.hid hr
  have HS := Lib.hid hs
  have HG := Lib.hid hg
  have HB := Lib.hid hb
  clear hr hg hs hb
  go_enter Try.func56, Try.ntmps56
  go_wp2_with (refine wpList_load_row rfl 24 _ rfl w.heap.size rfl 24 (cellsB l) (0, 0) _ HB.out Try.underlying24 rfl (by rw [size_block, cellsB_size, hl]) ?_)
  go_loopw [7] (fun vi wr => ∃ k : Nat, k ≤ 16 ∧ vi = .int .i64 k ∧ Blk wr (w.heap.size + 1) 95 z16 ∧ Blk wr (w.heap.size + 1 + 1) 95 (iterU (spF l) z16 k) ∧ w.grownBy wr none) (fun vi _ => 16 - (intOf vi).toNat)
  case atStart => exact ⟨0, by omega, rfl, HR.out, HS.out, HG.out⟩
  case round =>
    obtain ⟨k, hk, rfl, hr, hs, hg⟩ := hrel
    have HRR := Lib.hid hr
    have HGG := Lib.hid hg
    have hlen : (iterU (spF l) z16 k).length = 16 := iterU_len (spF_len l) k
    have hcell := hs.cell 16 hlen
    have hfree := hs.free
    have HSS := Lib.hid hs
    clear hr hg hs hlen
    by_cases hlt : k < 16
    · have hi := fun w => hidx k w hlt
      have hj : k % 4 * 4 + k / 4 < 16 := by omega
      have hcj := hcell _ hj
      obtain ⟨u0, hu0⟩ : ∃ u0, wr.cell? ⟨w.heap.size + 1 + 1, k % 4 * 4 + k / 4, none⟩ = some u0 := ⟨_, hcj⟩
      have hset := HSS.out.set (k % 4 * 4 + k / 4) (l.getD k 0)
      have he : iterU (spF l) z16 (k + 1) = (iterU (spF l) z16 k).set (k % 4 * 4 + k / 4) (l.getD k 0) := rfl
      obtain ⟨x, hx⟩ : ∃ x, x = l.getD k 0 := ⟨_, rfl⟩
      rw [← hx] at hset hi he
      rw [← he] at hset
      have HSET := Lib.hid hset
      clear hset HSS hcell hcj hidx hj hx he
      go_wp2_with fail
      go_roundw
      case rel => exact ⟨k + 1, by omega, by go_num, HRR.out.other (by omega), HSET.out, grownBy_old HGG.out (grownBy_setCell _ _ _ _) (by omega)⟩
      case measure => simp [intOf]; omega
    · obtain rfl : k = 16 := by omega
      clear hcell hfree hidx
      have hs := HSS.out
      rw [sp_end hl] at hs
      have HS2 := Lib.hid hs
      clear hs HSS
      go_wp2_with (first | (refine wpList_load_row rfl 95 _ rfl (w.heap.size + 1 + 1) rfl 95 (cellsB (trL l)) (0, 0) _ HS2.out Try.underlying95 rfl (by rw [size_state, cellsB_size, trL_len hl]) ?_) | (refine wpList_store_row rfl 95 _ _ rfl (w.heap.size + 1) (cellsB (trL l)) rfl rfl 95 _ HRR.out (by rw [size_state, cellsB_size, trL_len hl]) (by rw [cellsB_size, cellsB_size, trL_len hl]; rfl) (cellsB_one _) ?_))
      refine bodyPost_ret (v := .agg (cellsB (trL l))) (results_cell_row rfl _ _ (w.heap.size + 1) 95 (cellsB (trL l)) (0, 0) _ rfl (setRow_heap _ _ _ _ _ _ HRR.out) Try.underlying95 rfl (by rw [size_state, cellsB_size, trL_len hl])) rfl ⟨rfl, ?_⟩
      exact grownBy_old HGG.out (grownBy_setRow _ _ _) (by omega)

-- GATHER
def gaF (l : List UInt8) (k : Nat) (o : List UInt8) : List UInt8 := o.set k (l.getD (k % 4 * 4 + k / 4) 0)
theorem gaF_len (l : List UInt8) : ∀ k o, (gaF l k o).length = o.length := fun k o => by simp [gaF]
theorem ga_end {l : List UInt8} (hl : l.length = 16) : iterU (gaF l) z16 16 = trL l := by
  obtain ⟨x0, x1, x2, x3, x4, x5, x6, x7, x8, x9, x10, x11, x12, x13, x14, x15, rfl⟩ := ex16 hl
  rfl

set_option maxRecDepth 100000 in
set_option maxHeartbeats 1000000 in
theorem gather_n (l : List UInt8) (hl : l.length = 16) (w : World) : Calls Try.prog 59 #[aggB l] w fun e w' => e = .returned (aggB (trL l)) ∧ w.grownBy w' none := by
  unfold aggB
  obtain ⟨hb, hr, hs, hg⟩ := three w l z16 z16 95 24 24
  have HR := Lib.hid hr
  have HS := Lib.hid hs
  have HG := Lib.hid hg
  have HB := Lib.hid hb
  clear hr hg hs hb
  go_enter Try.func59, Try.ntmps59
  go_wp2_with fail
  go_loopw [5] (fun vi wr => ∃ k : Nat, k ≤ 16 ∧ vi = .int .i64 k ∧ Blk wr w.heap.size 95 l ∧ Blk wr (w.heap.size + 1) 24 z16 ∧ Blk wr (w.heap.size + 1 + 1) 24 (iterU (gaF l) z16 k) ∧ w.grownBy wr none) (fun vi _ => 16 - (intOf vi).toNat)
  case atStart => exact ⟨0, by omega, rfl, HB.out, HR.out, HS.out, HG.out⟩
  case round =>
    obtain ⟨k, hk, rfl, hb, hr, hs, hg⟩ := hrel
    have HBB := Lib.hid hb
    have HRR := Lib.hid hr
    have HGG := Lib.hid hg
    have hlen : (iterU (gaF l) z16 k).length = 16 := iterU_len (gaF_len l) k
    have hcell := hs.cell 16 hlen
    have hfree := hs.free
    have HSS := Lib.hid hs
    clear hr hg hs hlen hb
    by_cases hlt : k < 16
    · have hci := HBB.out.cell 16 hl (k % 4 * 4 + k / 4) (by omega)
      have hj : k < 16 := by omega
      have hcj := hcell _ hj
      obtain ⟨u0, hu0⟩ : ∃ u0, wr.cell? ⟨w.heap.size + 1 + 1, k, none⟩ = some u0 := ⟨_, hcj⟩
      have hset := HSS.out.set (k) (l.getD (k % 4 * 4 + k / 4) 0)
      have he : iterU (gaF l) z16 (k + 1) = (iterU (gaF l) z16 k).set (k) (l.getD (k % 4 * 4 + k / 4) 0) := rfl
      obtain ⟨x, hx⟩ : ∃ x, x = l.getD (k % 4 * 4 + k / 4) 0 := ⟨_, rfl⟩
      rw [← hx] at hset hci he
      rw [← he] at hset
      have HSET := Lib.hid hset
      clear hset HSS hcell hcj hj hx he
      go_wp2_with fail
      go_roundw
      case rel => exact ⟨k + 1, by omega, by go_num, HBB.out.other (by omega), HRR.out.other (by omega), HSET.out, grownBy_old HGG.out (grownBy_setCell _ _ _ _) (by omega)⟩
      case measure => simp [intOf]; omega
    · obtain rfl : k = 16 := by omega
      clear hcell hfree
      have hs := HSS.out
      rw [ga_end hl] at hs
      have HS2 := Lib.hid hs
      clear hs HSS
      go_wp2_with (first | (refine wpList_load_row rfl 24 _ rfl (w.heap.size + 1 + 1) rfl 24 (cellsB (trL l)) (0, 0) _ HS2.out Try.underlying24 rfl (by rw [size_block, cellsB_size, trL_len hl]) ?_) | (refine wpList_store_row rfl 24 _ _ rfl (w.heap.size + 1) (cellsB (trL l)) rfl rfl 24 _ HRR.out (by rw [size_block, cellsB_size, trL_len hl]) (by rw [cellsB_size, cellsB_size, trL_len hl]; rfl) (cellsB_one _) ?_))
      refine bodyPost_ret (v := .agg (cellsB (trL l))) (results_cell_row rfl _ _ (w.heap.size + 1) 24 (cellsB (trL l)) (0, 0) _ rfl (setRow_heap _ _ _ _ _ _ HRR.out) Try.underlying24 rfl (by rw [size_block, cellsB_size, trL_len hl])) rfl ⟨rfl, ?_⟩
      exact grownBy_old HGG.out (grownBy_setRow _ _ _) (by omega)

set_option maxRecDepth 100000 in
set_option maxHeartbeats 1000000 in
theorem refSpread_n (l : List UInt8) (hl : l.length = 16) (w : World) : Calls Try.prog 63 #[aggB l] w fun e w' => e = .returned (aggB (trL l)) ∧ w.grownBy w' none := by
  unfold aggB
  obtain ⟨hb, hr, hs, hg⟩ := three w l z16 z16 24 95 95
  have HR := Lib.hid hr
  have HS := Lib.hid hs
  have HG := Lib.hid hg
  have HB := Lib.hid hb
  clear hr hg hs hb
  go_enter Try.func63, Try.ntmps63
  go_wp2_with fail
  go_loopw [4] (fun vi wr => ∃ k : Nat, k ≤ 16 ∧ vi = .int .i64 k ∧ Blk wr w.heap.size 24 l ∧ Blk wr (w.heap.size + 1) 95 z16 ∧ Blk wr (w.heap.size + 1 + 1) 95 (iterU (spF l) z16 k) ∧ w.grownBy wr none) (fun vi _ => 16 - (intOf vi).toNat)
  case atStart => exact ⟨0, by omega, rfl, HB.out, HR.out, HS.out, HG.out⟩
  case round =>
    obtain ⟨k, hk, rfl, hb, hr, hs, hg⟩ := hrel
    have HBB := Lib.hid hb
    have HRR := Lib.hid hr
    have HGG := Lib.hid hg
    have hlen : (iterU (spF l) z16 k).length = 16 := iterU_len (spF_len l) k
    have hcell := hs.cell 16 hlen
    have hfree := hs.free
    have HSS := Lib.hid hs
    clear hr hg hs hlen hb
    by_cases hlt : k < 16
    · have hci := HBB.out.cell 16 hl (k) (by omega)
      have hj : k % 4 * 4 + k / 4 < 16 := by omega
      have hcj := hcell _ hj
      obtain ⟨u0, hu0⟩ : ∃ u0, wr.cell? ⟨w.heap.size + 1 + 1, k % 4 * 4 + k / 4, none⟩ = some u0 := ⟨_, hcj⟩
      have hset := HSS.out.set (k % 4 * 4 + k / 4) (l.getD (k) 0)
      have he : iterU (spF l) z16 (k + 1) = (iterU (spF l) z16 k).set (k % 4 * 4 + k / 4) (l.getD (k) 0) := rfl
      obtain ⟨x, hx⟩ : ∃ x, x = l.getD (k) 0 := ⟨_, rfl⟩
      rw [← hx] at hset hci he
      rw [← he] at hset
      have HSET := Lib.hid hset
      clear hset HSS hcell hcj hj hx he
      go_wp2_with fail
      go_region
      go_wp2
      go_roundw
      case rel => exact ⟨k + 1, by omega, by go_num, (HBB.out.other (by omega)).dr, (HRR.out.other (by omega)).dr, HSET.out.dr, grownBy_d1 (grownBy_old HGG.out (grownBy_setCell _ _ _ _) (by omega))⟩
      case measure => simp [intOf]; omega
    · obtain rfl : k = 16 := by omega
      clear hcell hfree
      have hs := HSS.out
      rw [sp_end hl] at hs
      have HS2 := Lib.hid hs
      clear hs HSS
      go_wp2_with (first | (refine wpList_load_row rfl 95 _ rfl (w.heap.size + 1 + 1) rfl 95 (cellsB (trL l)) (0, 0) _ HS2.out Try.underlying95 rfl (by rw [size_state, cellsB_size, trL_len hl]) ?_) | (refine wpList_store_row rfl 95 _ _ rfl (w.heap.size + 1) (cellsB (trL l)) rfl rfl 95 _ HRR.out (by rw [size_state, cellsB_size, trL_len hl]) (by rw [cellsB_size, cellsB_size, trL_len hl]; rfl) (cellsB_one _) ?_))
      refine bodyPost_ret (v := .agg (cellsB (trL l))) (results_cell_row rfl _ _ (w.heap.size + 1) 95 (cellsB (trL l)) (0, 0) _ rfl (setRow_heap _ _ _ _ _ _ HRR.out) Try.underlying95 rfl (by rw [size_state, cellsB_size, trL_len hl])) rfl ⟨rfl, ?_⟩
      exact grownBy_old HGG.out (grownBy_setRow _ _ _) (by omega)

set_option maxRecDepth 100000 in
set_option maxHeartbeats 1000000 in
theorem refGather_n (l : List UInt8) (hl : l.length = 16) (w : World) : Calls Try.prog 66 #[aggB l] w fun e w' => e = .returned (aggB (trL l)) ∧ w.grownBy w' none := by
  unfold aggB
  obtain ⟨hb, hr, hs, hg⟩ := three w l z16 z16 95 24 24
  have HR := Lib.hid hr
  have HS := Lib.hid hs
  have HG := Lib.hid hg
  have HB := Lib.hid hb
  clear hr hg hs hb
  go_enter Try.func66, Try.ntmps66
  go_wp2_with fail
  go_loopw [4] (fun vi wr => ∃ k : Nat, k ≤ 16 ∧ vi = .int .i64 k ∧ Blk wr w.heap.size 95 l ∧ Blk wr (w.heap.size + 1) 24 z16 ∧ Blk wr (w.heap.size + 1 + 1) 24 (iterU (gaF l) z16 k) ∧ w.grownBy wr none) (fun vi _ => 16 - (intOf vi).toNat)
  case atStart => exact ⟨0, by omega, rfl, HB.out, HR.out, HS.out, HG.out⟩
  case round =>
    obtain ⟨k, hk, rfl, hb, hr, hs, hg⟩ := hrel
    have HBB := Lib.hid hb
    have HRR := Lib.hid hr
    have HGG := Lib.hid hg
    have hlen : (iterU (gaF l) z16 k).length = 16 := iterU_len (gaF_len l) k
    have hcell := hs.cell 16 hlen
    have hfree := hs.free
    have HSS := Lib.hid hs
    clear hr hg hs hlen hb
    by_cases hlt : k < 16
    · have hci := HBB.out.cell 16 hl (k % 4 * 4 + k / 4) (by omega)
      have hj : k < 16 := by omega
      have hcj := hcell _ hj
      obtain ⟨u0, hu0⟩ : ∃ u0, wr.cell? ⟨w.heap.size + 1 + 1, k, none⟩ = some u0 := ⟨_, hcj⟩
      have hset := HSS.out.set (k) (l.getD (k % 4 * 4 + k / 4) 0)
      have he : iterU (gaF l) z16 (k + 1) = (iterU (gaF l) z16 k).set (k) (l.getD (k % 4 * 4 + k / 4) 0) := rfl
      obtain ⟨x, hx⟩ : ∃ x, x = l.getD (k % 4 * 4 + k / 4) 0 := ⟨_, rfl⟩
      rw [← hx] at hset hci he
      rw [← he] at hset
      have HSET := Lib.hid hset
      clear hset HSS hcell hcj hj hx he
      go_wp2_with fail
      go_roundw
      case rel => exact ⟨k + 1, by omega, by go_num, HBB.out.other (by omega), HRR.out.other (by omega), HSET.out, grownBy_old HGG.out (grownBy_setCell _ _ _ _) (by omega)⟩
      case measure => simp [intOf]; omega
    · obtain rfl : k = 16 := by omega
      clear hcell hfree
      have hs := HSS.out
      rw [ga_end hl] at hs
      have HS2 := Lib.hid hs
      clear hs HSS
      go_wp2_with (first | (refine wpList_load_row rfl 24 _ rfl (w.heap.size + 1 + 1) rfl 24 (cellsB (trL l)) (0, 0) _ HS2.out Try.underlying24 rfl (by rw [size_block, cellsB_size, trL_len hl]) ?_) | (refine wpList_store_row rfl 24 _ _ rfl (w.heap.size + 1) (cellsB (trL l)) rfl rfl 24 _ HRR.out (by rw [size_block, cellsB_size, trL_len hl]) (by rw [cellsB_size, cellsB_size, trL_len hl]; rfl) (cellsB_one _) ?_))
      refine bodyPost_ret (v := .agg (cellsB (trL l))) (results_cell_row rfl _ _ (w.heap.size + 1) 24 (cellsB (trL l)) (0, 0) _ rfl (setRow_heap _ _ _ _ _ _ HRR.out) Try.underlying24 rfl (by rw [size_block, cellsB_size, trL_len hl])) rfl ⟨rfl, ?_⟩
      exact grownBy_old HGG.out (grownBy_setRow _ _ _) (by omega)

end Go.Proofs.Ytblgdfamomlklaa
