/- Helpers and contracts of the proofs over this seat: Base, Own, Read, AesMath, AesMul, AesInv, AesSub, AesSt, AesRd, RegS, RegT, Row, Arr, AesBlk, AesSpread, AesShift, AesSubAll, AesEach, AesSubs, EqArr, AesEq. Each states what a function of the program answers, or is plain Lean; its conditions stand in each statement. -/
import Derived.Test.YtblgdfamomlklaaProg
import Derived.WalkKit
import Derived.WalkSpells
import Derived.WalkLawsBesides
import Derived.Deep.QuietTactic
import Derived.BigQuiet
import Derived.Deep.LoopGhost
import Derived.Deep.DeepCutAuto
import Derived.StillTailTactics
import Derived.Deep.DeepMust
import Derived.Lib.Hide
import Derived.Test.YtblgdfamomlklaaRows
import Derived.ProofKit
import Derived.OpenShut
import Derived.ShutString
import Derived.ChangeOld
import Derived.JoinedCond
import Derived.Deep.Slices
import Derived.Deep.RegionHeld3
import Derived.Deep.RegionWith
import Derived.Deep.RegionLaw
import Derived.DeepKeys
import Derived.Deep.Cut
import Derived.Deep.MidRow
set_option linter.unusedVariables false
/- The words that all walks of this seat share: rows of cells that are read, rows that the call owns, what a call may change. -/
namespace Go.Proofs.Ytblgdfamomlklaa
open Go.RowKit

/-- a byte as a cell -/
def bval (x : UInt8) : Value := .int .u8 (x.toNat : Int)

/-- from the address a on the cells xs lie (nothing is asked of a where there are none) -/
def Lies (w : World) (a : Option Addr) (xs : List Value) : Prop :=
  ∀ (k : Nat) (h : k < xs.length), ∃ b off, a = some ⟨b, off, none⟩ ∧ w.cell? ⟨b, off + k, none⟩ = some xs[k]

/-- from the address a on these bytes lie -/
def BLies (w : World) (a : Option Addr) (l : List UInt8) : Prop :=
  ∀ (k : Nat) (h : k < l.length), ∃ b off, a = some ⟨b, off, none⟩ ∧ w.cell? ⟨b, off + k, none⟩ = some (.int .u8 ((l[k]).toNat : Int))

theorem BLies.heap {w w' : World} {a : Option Addr} {l : List UInt8} (h : BLies w a l) (hk : ∀ b off, a = some ⟨b, off, none⟩ → b < w.heap.size → w'.heap[b]? = w.heap[b]?) : BLies w' a l := by
  intro k hk'
  obtain ⟨b, off, e, hc⟩ := h k hk'
  exact ⟨b, off, e, (World.cell?_of_block (hk b off e (World.block_lt_of_cell? w _ hc))).trans hc⟩
theorem BLies.grown {w w' : World} {a : Option Addr} {l : List UInt8} (h : BLies w a l) (hg : w.grownBy w' none) : BLies w' a l :=
  h.heap fun b _ _ hb => hg.block b hb (by simp)
theorem BLies.grownNe {w w' : World} {a : Option Addr} {l : List UInt8} {g : Nat} (h : BLies w a l) (hg : w.grownBy w' (some g)) (hne : ∀ b off, a = some ⟨b, off, none⟩ → b ≠ g) : BLies w' a l :=
  h.heap fun b off e hb => hg.block b hb (by have := hne b off e; simpa using this)
theorem BLies.drewN {w : World} {a : Option Addr} {l : List UInt8} (h : BLies w a l) (n : Nat) : BLies (w.drewN n) a l :=
  h.heap fun _ _ _ _ => by simp
theorem BLies.nil (w : World) (a : Option Addr) : BLies w a [] := fun k hk => absurd hk (by simp)
theorem BLies.take {w : World} {a : Option Addr} {l : List UInt8} (h : BLies w a l) (n : Nat) : BLies w a (l.take n) := by
  intro k hk
  obtain ⟨b, off, e, hc⟩ := h k (by simp at hk; omega)
  exact ⟨b, off, e, by rw [hc]; simp⟩

/-- a callee that leaves the world alone, as a drawing region asks it -/
theorem quietS {P : Program} {f : FuncId} {args : Array Value} {w : World} {n : Nat} {v : Value} (h : Calls P f args (w.drewN n) fun e w' => e = .returned v ∧ w.drewN n = w') : Calls P f args (w.drewN n) fun e w'' => e = .returned v ∧ ∃ m, w'' = w.drewN m :=
  Calls.quiet_of_same (h.mono fun _ _ ⟨he, hw⟩ => ⟨he, hw.symm⟩)

theorem quietS2 {P : Program} {f : FuncId} {args : Array Value} {w : World} {q n : Nat} {v : Value} (h : Calls P f args (w.drewN (q + n)) fun e w' => e = .returned v ∧ w.drewN (q + n) = w') : Calls P f args (w.drewN (q + n)) fun e w'' => e = .returned v ∧ ∃ m, w'' = w.drewN (q + m) :=
  h.mono fun _ _ ⟨he, hw⟩ => ⟨he, n, hw.symm⟩

/-- what a call may change: of the blocks that were there those in S alone; there may be new ones -/
structure Ch (S : Nat → Prop) (w w' : World) : Prop where
  os : w'.os = w.os
  tape : w'.tape = w.tape
  output : w'.output = w.output
  size : w.heap.size ≤ w'.heap.size
  block : ∀ k, k < w.heap.size → ¬ S k → w'.heap[k]? = w.heap[k]?

theorem Ch.refl (S : Nat → Prop) (w : World) : Ch S w w := ⟨rfl, rfl, rfl, Nat.le_refl _, fun _ _ _ => rfl⟩
theorem Ch.trans {S T : Nat → Prop} {a b c : World} (h : Ch S a b) (k : Ch T b c) (hT : ∀ i, i < a.heap.size → T i → S i) : Ch S a c :=
  ⟨k.os.trans h.os, k.tape.trans h.tape, k.output.trans h.output, Nat.le_trans h.size k.size, fun i hi hs => (k.block i (Nat.lt_of_lt_of_le hi h.size) (fun ht => hs (hT i hi ht))).trans (h.block i hi hs)⟩

end Go.Proofs.Ytblgdfamomlklaa
/- Rows that the call owns, and the laws of append over them: an append of any cells; an append of one value. -/
namespace Go.Proofs.Ytblgdfamomlklaa
open Go.RowKit

/-- what the program's table has of a slice type and its elements -/
structure El (P : Program) (t e : TypeId) (z : Value) (size bytes : Nat) : Prop where
  slice : P.underlying t = some (.slice e)
  info : ∃ i, P.info? e = some i ∧ i.zero = some z ∧ i.size = size ∧ i.bytes = bytes
  zs : z.cells.size = size
  pos : 0 < size

/-- the value '.slice a n c' owns the cells xs: it has no room at all, or it begins at the head of a block from 'base' on -/
def Own (w : World) (base : Nat) (e : TypeId) (size : Nat) (a : Option Addr) (n c : Nat) (xs : List Value) : Prop :=
  xs.length = n * size ∧ ((n = 0 ∧ c = 0) ∨
    ∃ g cur, a = some ⟨g, 0, none⟩ ∧ base ≤ g ∧ w.heap[g]? = some (.cells cur e (0, 0)) ∧ n ≤ c ∧ c ≤ maxLen ∧ cur.size = c * size ∧ cur.toList.take (n * size) = xs)

theorem Own.nil (w : World) (base : Nat) (e : TypeId) (size : Nat) (a : Option Addr) : Own w base e size a 0 0 [] := ⟨by simp, .inl ⟨rfl, rfl⟩⟩

theorem Own.cap {w : World} {base : Nat} {e : TypeId} {size : Nat} {a : Option Addr} {n c : Nat} {xs : List Value} (h : Own w base e size a n c xs) : n ≤ c ∧ c ≤ maxLen := by
  rcases h.2 with ⟨h0, h1⟩ | ⟨g, cur, ha, hb, hh, hn, hm, _⟩
  · subst h0; subst h1; unfold maxLen; omega
  · exact ⟨hn, hm⟩

theorem Own.block {w : World} {base : Nat} {e : TypeId} {size : Nat} {a : Option Addr} {n c : Nat} {xs : List Value} (h : Own w base e size a n c xs) (hc : 0 < c) : ∃ g, a = some ⟨g, 0, none⟩ ∧ base ≤ g ∧ g < w.heap.size := by
  rcases h.2 with ⟨_, h0⟩ | ⟨g, cur, ha, hb, hh, _⟩
  · omega
  · exact ⟨g, ha, hb, (Array.getElem?_eq_some_iff.1 hh).1⟩

/-- what is owned stays owned where its block stands -/
theorem Own.kept' {w w' : World} {base : Nat} {e : TypeId} {size : Nat} {a : Option Addr} {n c : Nat} {xs : List Value} (h : Own w base e size a n c xs) (hk : 0 < c → ∀ g, a = some ⟨g, 0, none⟩ → g < w.heap.size → w'.heap[g]? = w.heap[g]?) : Own w' base e size a n c xs := by
  refine ⟨h.1, ?_⟩
  rcases h.2 with h0 | ⟨g, cur, ha, hb, hh, hn, r⟩
  · exact .inl h0
  · by_cases hc : 0 < c
    · exact .inr ⟨g, cur, ha, hb, (hk hc g ha (Array.getElem?_eq_some_iff.1 hh).1).trans hh, hn, r⟩
    · exact .inl ⟨by omega, by omega⟩
theorem Own.kept {w w' : World} {base : Nat} {e : TypeId} {size : Nat} {a : Option Addr} {n c : Nat} {xs : List Value} (h : Own w base e size a n c xs) (hk : ∀ g, a = some ⟨g, 0, none⟩ → g < w.heap.size → w'.heap[g]? = w.heap[g]?) : Own w' base e size a n c xs :=
  h.kept' fun _ => hk

theorem Own.mono {w : World} {base base' : Nat} {e : TypeId} {size : Nat} {a : Option Addr} {n c : Nat} {xs : List Value} (h : Own w base e size a n c xs) (hb : base' ≤ base) : Own w base' e size a n c xs := by
  refine ⟨h.1, ?_⟩
  rcases h.2 with h0 | ⟨g, cur, ha, hbg, r⟩
  · exact .inl h0
  · exact .inr ⟨g, cur, ha, by omega, r⟩

/-- the cells of what is owned -/
theorem Own.cell {w : World} {base : Nat} {e : TypeId} {size : Nat} {a : Option Addr} {n c : Nat} {xs : List Value} (h : Own w base e size a n c xs) (k : Nat) (hk : k < xs.length) : ∃ g, a = some ⟨g, 0, none⟩ ∧ base ≤ g ∧ g < w.heap.size ∧ w.cell? ⟨g, k, none⟩ = some xs[k] ∧ w.frozen? ⟨g, k, none⟩ = false := by
  rcases h.2 with ⟨h0, _⟩ | ⟨g, cur, ha, hb, hh, hn, hm, hs, ht⟩
  · have := h.1; subst h0; simp at this; subst this; simp at hk
  · refine ⟨g, ha, hb, (Array.getElem?_eq_some_iff.1 hh).1, ?_, ?_⟩
    · have hl := h.1
      have e1 : (cur.toList.take (n * size))[k]? = xs[k]? := by rw [ht]
      rw [List.getElem?_take, if_pos (by omega), List.getElem?_eq_getElem hk] at e1
      simp only [World.cell?, hh]
      simpa using e1
    · simp [World.frozen?, hh]

/-- a store into what is owned -/
theorem Own.set {w : World} {base : Nat} {e : TypeId} {size : Nat} {g n c : Nat} {xs : List Value} (h : Own w base e size (some ⟨g, 0, none⟩) n c xs) (k : Nat) (hk : k < xs.length) (u : Value) : Own (w.setCell ⟨g, k, none⟩ u) base e size (some ⟨g, 0, none⟩) n c (xs.set k u) := by
  refine ⟨by rw [List.length_set]; exact h.1, ?_⟩
  rcases h.2 with ⟨h0, _⟩ | ⟨g', cur, ha, hb, hh, hn, hm, hs, ht⟩
  · have := h.1; subst h0; simp at this; subst this; simp at hk
  · obtain rfl : g = g' := by simpa using ha
    have hl := h.1
    refine .inr ⟨g, cur.setIfInBounds k u, rfl, hb, ?_, hn, hm, by simpa using hs, ?_⟩
    · simp only [World.setCell, Array.getElem?_modify, ↓reduceIte, hh, Option.map_some]
      simp
    · rw [Array.toList_setIfInBounds, List.take_set, ht]

theorem grownBy_setCell (w : World) (g k : Nat) (u : Value) : w.grownBy (w.setCell ⟨g, k, none⟩ u) (some g) :=
  ⟨rfl, rfl, rfl, by simp [World.setCell], fun i _ hr => Below.heap_setCell _ _ _ _ (by simpa using hr)⟩

/-- an array in a block of its own, its cells told -/
theorem own_array (w : World) (e : TypeId) (cs : Array Value) (n : Nat) (hn : cs.size = n) (hm : n ≤ maxLen) : Own (w.alloc (.cells cs e)) w.heap.size e 1 (some ⟨w.heap.size, 0, none⟩) n n cs.toList := by
  subst hn
  exact ⟨by simp, .inr ⟨w.heap.size, _, rfl, Nat.le_refl _, heap_alloc_new w _, Nat.le_refl _, hm, by simp, by rw [Nat.mul_one, List.take_of_length_le (by simp)]⟩⟩
/-- the whole of a block that is owned -/
theorem Own.whole {w : World} {base : Nat} {e : TypeId} {g n : Nat} {xs : List Value} (h : Own w base e 1 (some ⟨g, 0, none⟩) n n xs) (hn : 0 < n) : w.heap[g]? = some (.cells xs.toArray e (0, 0)) := by
  rcases h.2 with ⟨h0, _⟩ | ⟨g', cur, ha, hb, hh, hnn, hm, hs, ht⟩
  · omega
  · injection ha with ha; injection ha with ha
    subst ha
    rw [hh, ← ht, List.take_of_length_le (by simp; omega)]
theorem grownBy_setRow (w : World) (g : Nat) (cs : Array Value) : w.grownBy (w.setRow g cs) (some g) :=
  ⟨rfl, rfl, rfl, by simp, fun k _ hk => setRow_other w g k _ (fun e => hk (by simp [e]))⟩

/-- what an append has done to the world and the address: nothing; written into its own block; a new block -/
def GrewP (w w1 : World) (a : Option Addr) (c : Nat) (a' : Option Addr) (c' : Nat) : Prop :=
  (∃ g, a' = some ⟨g, 0, none⟩ ∧ a = a' ∧ 0 < c ∧ c' = c ∧ w.grownBy w1 (some g)) ∨ (∃ g, a' = some ⟨g, 0, none⟩ ∧ w.heap.size ≤ g ∧ w.grownBy w1 none)
def Grew (w w1 : World) (a : Option Addr) (c : Nat) (a' : Option Addr) (c' : Nat) : Prop := (a' = a ∧ c' = c ∧ w1 = w) ∨ GrewP w w1 a c a' c'
theorem GrewP.grew {w w1 : World} {a : Option Addr} {c : Nat} {a' : Option Addr} {c' : Nat} (h : GrewP w w1 a c a' c') : Grew w w1 a c a' c' := .inr h

theorem grownBy_trans {a b c : World} {row : Option Nat} (h : a.grownBy b row) (k : b.grownBy c row) : a.grownBy c row :=
  ⟨k.os.trans h.os, k.tape.trans h.tape, k.output.trans h.output, Nat.le_trans h.size k.size, fun i hi hr => (k.block i (Nat.lt_of_lt_of_le hi h.size) hr).trans (h.block i hi hr)⟩
theorem grownBy_none {a b : World} {row : Option Nat} (h : a.grownBy b row) (hr : ∀ g, row = some g → a.heap.size ≤ g) : a.grownBy b none :=
  ⟨h.os, h.tape, h.output, h.size, fun i hi _ => h.block i hi (fun e => by have := hr i e.symm; omega)⟩
theorem grownBy_some {a b : World} (h : a.grownBy b none) (row : Option Nat) : a.grownBy b row :=
  ⟨h.os, h.tape, h.output, h.size, fun i hi _ => h.block i hi (by simp)⟩
theorem grownBy_old {a b c : World} {g : Nat} (h : a.grownBy b none) (k : b.grownBy c (some g)) (hg : a.heap.size ≤ g) : a.grownBy c none :=
  grownBy_none (grownBy_trans (grownBy_some h (some g)) k) (by rintro g' ⟨⟩; exact hg)
theorem grownBy_al {a b : World} (h : a.grownBy b none) (o : Obj) : a.grownBy (b.alloc o) none := grownBy_trans h (World.grownBy_alloc b o none)
theorem grownBy_dr {a b : World} (h : a.grownBy b none) (n : Nat) : a.grownBy (b.drewN n) none := ⟨h.os, h.tape, h.output, h.size, h.block⟩
theorem grownBy_drewN (w : World) (n : Nat) (row : Option Nat) : w.grownBy (w.drewN n) row := ⟨rfl, rfl, rfl, Nat.le_refl _, fun _ _ _ => rfl⟩

theorem Grew.size {w w1 : World} {a : Option Addr} {c : Nat} {a' : Option Addr} {c' : Nat} (h : Grew w w1 a c a' c') : w.heap.size ≤ w1.heap.size := by
  rcases h with ⟨_, _, rfl⟩ | ⟨g, _, _, _, _, h⟩ | ⟨g, _, _, h⟩
  · exact Nat.le_refl _
  · exact h.size
  · exact h.size

/-- of what lay before the base nothing has turned -/
theorem Grew.grown {w0 w w1 : World} {base : Nat} {e : TypeId} {size : Nat} {a : Option Addr} {n c : Nat} {xs : List Value} {a' : Option Addr} {c' : Nat} (h : Grew w w1 a c a' c') (ho : Own w base e size a n c xs) (hg : w0.grownBy w none) (hb : w0.heap.size ≤ base) : w0.grownBy w1 none := by
  rcases h with ⟨_, _, rfl⟩ | ⟨g, ha, rfl, hc, _, h⟩ | ⟨g, _, _, h⟩
  · exact hg
  · obtain ⟨g', he, hb', _⟩ := ho.block hc
    rw [ha] at he
    obtain rfl : g = g' := by simpa using he
    exact grownBy_old hg h (by omega)
  · exact grownBy_trans hg h

/-- another row stays -/
theorem Grew.other {w w1 : World} {a : Option Addr} {c : Nat} {a' : Option Addr} {c' : Nat} (h : Grew w w1 a c a' c') (k : Nat) (hk : k < w.heap.size) (hne : ∀ g, 0 < c → a = some ⟨g, 0, none⟩ → k ≠ g) : w1.heap[k]? = w.heap[k]? := by
  rcases h with ⟨_, _, rfl⟩ | ⟨g, ha, rfl, hc, _, h⟩ | ⟨g, _, _, h⟩
  · rfl
  · exact h.block k hk (by have := hne g hc ha; simpa using this)
  · exact h.block k hk (by simp)

section
variable {P : Program}

theorem run_app (w : World) {t ty e : TypeId} {z : Value} {size bytes : Nat} (H : El P t e z size bytes) {base : Nat} {a : Option Addr} {n c : Nat} {xs : List Value} (hown : Own w base e size a n c xs)
    (ad : Addr) (m c2 : Nat) (news : List Value) (hl : news.length = m * size) (hnews : ∀ j u, news[j]? = some u → w.cell? (ad.add j) = some u) (h1 : ∀ u ∈ news, u.oneCell' = true)
    (h63 : n + m ≤ maxLen) (hbytes : (n + m) * bytes ≤ 140737488355328) (hbase : base ≤ w.heap.size) (hnil : a = none → c = 0 → n = 0 → True) (hm : 0 < m) :
    ∃ g c' w1, (Builtin.append_ #[t, t] ty #[.slice a n c, .slice (some ad) m c2]).run P w = .ok (.slice (some ⟨g, 0, none⟩) (n + m) c') w1 ∧ Own w1 base e size (some ⟨g, 0, none⟩) (n + m) c' (xs ++ news) ∧ GrewP w w1 a c (some ⟨g, 0, none⟩) c' := by
  obtain ⟨ht, ⟨i, hi, hz, rfl, rfl⟩, hzs, hsz⟩ := H
  have hsmall : n + m ≤ 9223372036854775807 := by simp only [maxLen] at h63; omega
  have hlen : (xs ++ news).length = (n + m) * i.size := by rw [List.length_append, hown.1, hl, Nat.add_mul]
  have grown : ∀ (old : Nat), old < n + m →
      Own (w.drew.alloc (.cells (xs.toArray ++ news.toArray ++ Builtin.zeroCells z.cells (grownCap w (n + m) old e - (n + m))) e)) base e i.size
        (some ⟨w.heap.size, 0, none⟩) (n + m) (grownCap w (n + m) old e) (xs ++ news) ∧
      w.grownBy (w.drew.alloc (.cells (xs.toArray ++ news.toArray ++ Builtin.zeroCells z.cells (grownCap w (n + m) old e - (n + m))) e)) none := by
    intro old ho
    have hge := grownCap_ge w (n + m) old e
    have hcm : grownCap w (n + m) old e ≤ maxLen := grownCap_le_maxLen w (n + m) old e h63
    refine ⟨⟨hlen, .inr ⟨w.heap.size, _, rfl, hbase, heap_alloc_new w.drew _, hge, hcm, ?_, ?_⟩⟩, ⟨rfl, rfl, rfl, by simp, fun k hk _ => Below.heap_alloc w.drew _ k hk⟩⟩
    · simp only [Array.size_append, List.size_toArray, size_zeroCells, hzs, hown.1, hl, ← Nat.add_mul]
      congr 1
      omega
    · simp only [Array.toList_append, List.append_assoc]
      rw [← List.append_assoc, ← hlen]
      exact List.take_left
  rcases hown.2 with ⟨rfl, rfl⟩ | ⟨g, cur, rfl, hbg, hg, hnc, hcm, hcs, htake⟩
  · have hx : xs = [] := List.eq_nil_of_length_eq_zero (by simpa using hown.1)
    subst hx
    have hgr := grown 0 (by omega)
    cases a with
    | none =>
      have hr := run_append_nil (P := P) w t ty e i z ht hi hz ad m c2 news hl hnews hm (by omega) (by have hb := hbytes; simp only [Nat.zero_add] at hb; omega)
      simp only [Nat.zero_add, List.nil_append, Array.empty_append] at hgr ⊢
      exact ⟨_, _, _, hr, hgr.1, .inr ⟨_, rfl, Nat.le_refl _, hgr.2⟩⟩
    | some b =>
      have hr := run_append_grow (P := P) w t ty e i z ht hi hz b 0 0 [] (by simp) (by simp) ad m c2 news hl hnews (by omega) (by omega) (growslice_fits (by omega) hbytes)
      exact ⟨_, _, _, hr, hgr.1, .inr ⟨_, rfl, Nat.le_refl _, hgr.2⟩⟩
  · by_cases hroom : n + m ≤ c
    · have hfit : n * i.size + news.length ≤ cur.size := by rw [hl, hcs, ← Nat.add_mul]; exact Nat.mul_le_mul_right _ hroom
      have hr := run_append_room (P := P) w t ty e i ht hi g n c cur hg ad m c2 news hl hnews h1 hroom hfit
      refine ⟨_, _, _, hr, ⟨hlen, .inr ⟨g, _, rfl, hbg, setRow_heap w g cur _ e _ hg, hroom, hcm, ?_, ?_⟩⟩, .inl ⟨g, rfl, rfl, by omega, rfl, ⟨rfl, rfl, rfl, by simp, fun k _ hk => setRow_other w g k _ (fun e => hk (by simp [e]))⟩⟩⟩
      · simp only [List.size_toArray, List.length_append, List.length_take, List.length_drop, Array.length_toList]
        omega
      · rw [htake, ← hlen]
        exact List.take_left
    · have holds : ∀ j u, xs[j]? = some u → w.cell? ((⟨g, 0, none⟩ : Addr).add j) = some u := by
        intro j u hu
        have hadd : (⟨g, 0, none⟩ : Addr).add j = ⟨g, j, none⟩ := by unfold Addr.add; split <;> simp_all
        obtain ⟨hj, rfl⟩ := List.getElem?_eq_some_iff.1 hu
        obtain ⟨g', e1, _, _, hc, _⟩ := hown.cell j hj
        obtain rfl : g = g' := by simpa using e1
        rw [hadd]; exact hc
      have hr := run_append_grow (P := P) w t ty e i z ht hi hz ⟨g, 0, none⟩ n c xs hown.1 holds ad m c2 news hl hnews (by omega) (by omega) (growslice_fits (by omega) hbytes)
      have hgr := grown c (by omega)
      exact ⟨_, _, _, hr, hgr.1, .inr ⟨_, rfl, Nat.le_refl _, hgr.2⟩⟩

/-- append of cells that lie somewhere (there is at least one) -/
theorem wpList_app {w : World} {ops : Array Oper} {rest : List Oper} {o : Oper} {act : Act} {Q : Exit → Act → World → Prop} {t e : TypeId} {z : Value} {size bytes : Nat} (H : El P t e z size bytes)
    (hgd : o.guard = none) (s x : Operand) (ho : o.op = .call { callee := .builtin .append, args := #[s, x], argTypes := #[t, t] })
    {base : Nat} {a : Option Addr} {n c : Nat} {xs : List Value} (hs : act.eval s = .slice a n c) (hown : Own w base e size a n c xs)
    (ad : Addr) (m c2 : Nat) (news : List Value) (hx : act.eval x = .slice (some ad) m c2) (hl : news.length = m * size) (hnews : ∀ j u, news[j]? = some u → w.cell? (ad.add j) = some u) (h1 : ∀ u ∈ news, u.oneCell' = true)
    (h63 : n + m ≤ maxLen) (hbytes : (n + m) * bytes ≤ 140737488355328) (hbase : base ≤ w.heap.size) (hm : 0 < m)
    (h : ∀ g c' w1, Own w1 base e size (some ⟨g, 0, none⟩) (n + m) c' (xs ++ news) → GrewP w w1 a c (some ⟨g, 0, none⟩) c' → wpList P ops Q rest (act.put o.dst (.slice (some ⟨g, 0, none⟩) (n + m) c')) w1) : wpList P ops Q (o :: rest) act w := by
  refine wpList_plain hgd fun K hK => ?_
  obtain ⟨g, c', w1, hr, h2, h3⟩ := run_app (P := P) (ty := o.type) w H hown ad m c2 news hl hnews h1 h63 hbytes hbase (fun _ _ _ => trivial) hm
  unfold Oper.wp execOp
  simp only [ho, resolve, invoke, builtin, Sem.run_bind, Sem.run_pure, Result.andThen_ok, List.map_toArray, List.map_cons, List.map_nil, hs, hx, hr]
  exact hK _ _ (h g c' w1 h2 h3)

/-- append of one value of one cell: the translation has just laid it in a block of its own -/
theorem wpList_push {w : World} {ops : Array Oper} {rest : List Oper} {o : Oper} {act : Act} {Q : Exit → Act → World → Prop} {t e : TypeId} {z : Value} {bytes : Nat} (H : El P t e z 1 bytes)
    (hgd : o.guard = none) (s x : Operand) (ho : o.op = .call { callee := .builtin .append, args := #[s, x], argTypes := #[t, t] })
    {base : Nat} {a : Option Addr} {n c : Nat} {xs : List Value} (hs : act.eval s = .slice a n c) (hown : Own w base e 1 a n c xs)
    (u : Value) (hx : act.eval x = .slice (some ⟨w.heap.size, 0, none⟩) 1 1) (h1 : u.oneCell' = true)
    (h63 : n + 1 ≤ maxLen) (hbytes : (n + 1) * bytes ≤ 140737488355328) (hbase : base ≤ w.heap.size)
    (h : ∀ g c' w1, Own w1 base e 1 (some ⟨g, 0, none⟩) (n + 1) c' (xs ++ [u]) → GrewP w w1 a c (some ⟨g, 0, none⟩) c' → wpList P ops Q rest (act.put o.dst (.slice (some ⟨g, 0, none⟩) (n + 1) c')) w1) : wpList P ops Q (o :: rest) act (w.alloc (.cells #[u] e)) := by
  have hga : w.grownBy (w.alloc (.cells #[u] e)) none := World.grownBy_alloc w _ none
  refine wpList_app H hgd s x ho hs (hown.kept fun g _ hg => hga.block g hg (by simp)) ⟨w.heap.size, 0, none⟩ 1 1 [u] hx (by simp) (cell_one_new _ _ _) (by simpa using h1) h63 hbytes (by have := hga.size; omega) (by omega) ?_
  intro g c' w1 h2 h3
  refine h g c' w1 h2 ?_
  rcases h3 with ⟨g', e1, e2, hc, hcc, hg⟩ | ⟨g', e1, hs', hg⟩
  · exact .inl ⟨g', e1, e2, hc, hcc, grownBy_trans (grownBy_some hga _) hg⟩
  · exact .inr ⟨g', e1, by have := hga.size; omega, grownBy_trans hga hg⟩
end

end Go.Proofs.Ytblgdfamomlklaa
/- What came in, as the walks want it: bytes that lie in memory; and what the bound on bulk says of a length. -/
namespace Go.Proofs.Ytblgdfamomlklaa
open Go.ChangeShapes Go.WideShapes Go.ChangeAt Go.RowKit

theorem ownKnobT : ownKnob Try.prog.godebug = none := by kernel_rfl
theorem laidOutT : laidOutB Try.prog = true := by kernel_rfl

theorem bulk_pos {H : Type} (d : DataW H) : 1 ≤ Rows.uptoBulk d := by
  cases d with
  | lit l => cases l <;> simp [Rows.uptoBulk]
  | nil => simp [Rows.uptoBulk]
  | ptr d => simp [Rows.uptoBulk]
  | slice elems spare => simp [Rows.uptoBulk]
  | agg parts => simp [Rows.uptoBulk]
  | iface t d => simp [Rows.uptoBulk]
  | map entries => simp [Rows.uptoBulk]
  | held h => simp [Rows.uptoBulk]
theorem bulk_length {H : Type} (l : List (DataW H)) : l.length ≤ Rows.uptoBulkAll l := by
  induction l with
  | nil => simp [Rows.uptoBulkAll]
  | cons x r ih => have := bulk_pos x; simp only [Rows.uptoBulkAll, List.length_cons]; omega
theorem bulk_small {H : Type} {l : List (DataW H)} (hk : Rows.uptoSmall H l = true) : Rows.uptoBulkAll l ≤ 1048576 := of_decide_eq_true hk
theorem bulk_slice {H : Type} (elems spare : List (DataW H)) : Rows.uptoBulkAll elems + 1 ≤ Rows.uptoBulk (.slice elems spare) := by
  simp only [Rows.uptoBulk]; omega
theorem bulk_app {H : Type} (l r : List (DataW H)) : Rows.uptoBulkAll (l ++ r) = Rows.uptoBulkAll l + Rows.uptoBulkAll r := by
  induction l with
  | nil => simp [Rows.uptoBulkAll]
  | cons x l ih => simp only [List.cons_append, Rows.uptoBulkAll, ih]; omega

theorem u8_of_wf {n : Int} (h : (Lit.int .u8 n).wf = true) : ((UInt8.ofNat n.toNat).toNat : Int) = n := by
  have h' : 0 ≤ n ∧ n ≤ 255 := by simpa [Lit.wf, IntKind.min, IntKind.max, IntKind.signed, IntKind.bits] using h
  rw [UInt8.toNat_ofNat']
  omega

/-- a slice of bytes that came in -/
theorem rd_bytes {H : Type} {enc : TypeId × Value → H} {W : World} {base : Nat} {spare : Nat → Bool} {held : Bool} {fuel : Nat} {a : Option Addr} {len cap : Nat} {d : DataW H} {p : List MemPlace}
    (h : DataW.trod enc Try.prog W base spare held fuel 34 [.slice a len cap] = some (d, p)) : ∃ l : List UInt8, l.length = len ∧ BLies W a l ∧ len + 1 ≤ Rows.uptoBulk d ∧ len ≤ cap ∧ cap ≤ maxLen := by
  rcases open_ints Try.underlying34 Try.underlying5 (by kernel_rfl) h with ⟨hcs, hx⟩ | ⟨x, len', cap', zs, hcs, _, hl, hm, hz, hx, hcell, hwz⟩
  · simp at hcs
    obtain ⟨rfl, rfl, rfl⟩ := hcs
    injection hx with hx _
    subst hx
    exact ⟨[], rfl, BLies.nil _ _, by simp [Rows.uptoBulk], Nat.le_refl _, by unfold maxLen; omega⟩
  · simp at hcs
    obtain ⟨rfl, rfl, rfl⟩ := hcs
    injection hx with hx _
    subst hx
    have hzl : len ≤ zs.length := by rw [hz]; split <;> omega
    refine ⟨(zs.take len).map fun z => UInt8.ofNat z.toNat, by simp; omega, ?_, ?_, hl, hm⟩
    · intro k hk
      have hk' : k < zs.length := by simp at hk; omega
      obtain ⟨b, off, rfl, hc⟩ := ints_at hcell (by omega)
      refine ⟨b, off, rfl, ?_⟩
      rw [hc k hk']
      have e : zs.getD k 0 = zs[k] := by simp [hk']
      rw [e]
      simp only [List.getElem_map, List.getElem_take]
      rw [u8_of_wf (hwz _ (List.getElem_mem _))]
    · have h1 := bulk_slice (H := H) (lits .u8 (zs.take len)) (lits .u8 (zs.drop len))
      have h2 := bulk_length (H := H) (lits .u8 (zs.take len))
      have h3 : (lits (H := H) .u8 (zs.take len)).length = len := by simp [lits]; omega
      omega

theorem u64_of_wf {n : Int} (h : (Lit.int .u64 n).wf = true) : ∃ m : Nat, n = m ∧ m < 18446744073709551616 := by
  have h' : 0 ≤ n ∧ n ≤ 18446744073709551615 := by simpa [Lit.wf, IntKind.min, IntKind.max, IntKind.signed, IntKind.bits] using h
  exact ⟨n.toNat, by omega, by omega⟩
theorem i64_of_wf {n : Int} (h : (Lit.int .i64 n).wf = true) : -9223372036854775808 ≤ n ∧ n ≤ 9223372036854775807 := by
  simpa [Lit.wf, IntKind.min, IntKind.max, IntKind.signed, IntKind.bits] using h
theorem byte_of_wf {n : Int} (h : (Lit.int .u8 n).wf = true) : ∃ m : UInt8, n = (m.toNat : Int) := ⟨_, (u8_of_wf h).symm⟩

theorem grown_all {w w' : World} (h : w.grownBy w' none) : Below w.heap.size w w' := ⟨h.os, h.tape, h.output, h.size, fun k hk => h.block k hk (by simp)⟩

end Go.Proofs.Ytblgdfamomlklaa
/- The cipher's field, in plain Lean: no program in sight. -/
namespace Go.Proofs.Ytblgdfamomlklaa

/-- times the generator -/
def ax (a : Nat) : Nat := if a < 128 then a * 2 else (a * 2 - 256) ^^^ 27
/-- so many rounds of the product -/
def amL : Nat → Nat → Nat → Nat → Nat
  | 0, p, _, _ => p
  | n + 1, p, a, b => amL n (if b % 2 = 1 then p ^^^ a else p) (ax a) (b / 2)
def amN (a b : Nat) : Nat := amL 8 0 a b

theorem ax_lt {a : Nat} (h : a < 256) : ax a < 256 := by
  unfold ax
  split
  · omega
  · exact Nat.xor_lt_two_pow (n := 8) (by omega) (by omega)
theorem amL_zero : ∀ (n p a : Nat), amL n p a 0 = p := by
  intro n
  induction n with
  | zero => intro p a; rfl
  | succ n ih => intro p a; simp only [amL]; rw [ih]; simp
theorem amL_lt : ∀ (n p a b : Nat), p < 256 → a < 256 → amL n p a b < 256 := by
  intro n
  induction n with
  | zero => intro p a b hp _; exact hp
  | succ n ih =>
    intro p a b hp ha
    refine ih _ _ _ ?_ (ax_lt ha)
    split
    · exact Nat.xor_lt_two_pow (n := 8) hp ha
    · exact hp
theorem amN_lt {a b : Nat} (ha : a < 256) : amN a b < 256 := amL_lt 8 0 a b (by omega) ha

/-- the product -/
def am (a b : UInt8) : UInt8 := UInt8.ofNat (amN a.toNat b.toNat)
theorem am_toNat (a b : UInt8) : (am a b).toNat = amN a.toNat b.toNat := by
  unfold am
  rw [UInt8.toNat_ofNat', Nat.mod_eq_of_lt (by have := amN_lt (a := a.toNat) (b := b.toNat) a.toNat_lt; omega)]

/-- to the power 254 -/
def ainvL : Nat → UInt8 → UInt8 → UInt8
  | 0, p, _ => p
  | n + 1, p, a => ainvL n (am p (am a a)) (am a a)
def ainv (a : UInt8) : UInt8 := ainvL 7 1 a
theorem ainv_zero : ainv 0 = 0 := by decide +kernel
theorem am_zero_right (a : UInt8) : am a 0 = 0 := by
  unfold am amN
  rw [show (0 : UInt8).toNat = 0 from rfl, amL_zero]
  rfl
end Go.Proofs.Ytblgdfamomlklaa
/- aes.Product, and the document's. -/
namespace Go.Proofs.Ytblgdfamomlklaa
open Go.RowKit

theorem and_one (y : Nat) (hy : y < 256) : bits .and .u8 (y : Int) 1 = ((y % 2 : Nat) : Int) := by
  have := u8_and_nat y 1 hy (by omega)
  rw [Nat.and_one_is_mod] at this
  exact this
theorem and_128 (x : Nat) (hx : x < 256) : bits .and .u8 (x : Int) 128 = if x < 128 then 0 else 128 := by
  have := u8_and_nat x 128 hx (by omega)
  have e : ∀ x : Fin 256, (x.val &&& 128 : Nat) = if x.val < 128 then 0 else 128 := by decide +kernel
  have e' := e ⟨x, hx⟩
  simp only at e'
  rw [e'] at this
  rw [show (128 : Int) = ((128 : Nat) : Int) from rfl, this]
  split <;> rfl
theorem xor_val (a b : Nat) (ha : a < 256) (hb : b < 256) : bits .xor .u8 (a : Int) (b : Int) = ((a ^^^ b : Nat) : Int) := u8_xor_nat a b ha hb

theorem xor_27 (x : Nat) (h : bits .xor .u8 ((x * 2 % 256 : Nat) : Int) ((27 : Nat) : Int) = ((x * 2 % 256 ^^^ 27 : Nat) : Int)) (hx : x * 2 % 256 = x * 2 - 256) : bits .xor .u8 ((x : Int) * 2 % 256) 27 = ((x * 2 - 256 ^^^ 27 : Nat) : Int) := by
  rw [← hx, ← h]
  congr 1

set_option maxHeartbeats 400000 in
theorem doubleN_any (x : Nat) (w : World) (hx : x < 256) :
    Calls Try.prog 52 #[.int .u8 x] w fun e w' => e = .returned (.int .u8 (ax x : Nat)) ∧ w = w' := by
  have b2 := and_128 x hx
  have x2 := xor_val (x * 2 % 256) 27 (by omega) (by omega)
  have X2 := Lib.hid x2
  clear x2
  by_cases e2 : x < 128
  all_goals
    first | rw [if_pos e2] at b2 | rw [if_neg e2] at b2
    go_enter Try.func52, Try.ntmps52
    go_wp2
    go_ret
    refine ⟨?_, rfl⟩
    refine congrArg Ending.returned ?_
    unfold ax
    first | (rw [if_pos e2]; go_num) | (rw [if_neg e2]; exact congrArg (Value.int .u8) (xor_27 x X2.out (by omega)))

set_option maxHeartbeats 400000 in
theorem prodN_any (a b : Nat) (w : World) (ha : a < 256) (hb : b < 256) :
    Calls Try.prog 75 #[.int .u8 a, .int .u8 b] w fun e w' => e = .returned (.int .u8 (amN a b : Nat)) ∧ w = w' := by
  go_enter Try.func75, Try.ntmps75
  go_wp2
  go_loop [0, 1, 5] (fun va vb vp => ∃ k x y p : Nat, k ≤ 8 ∧ x < 256 ∧ y < 2 ^ k ∧ y < 256 ∧ p < 256 ∧ va = .int .u8 x ∧ vb = .int .u8 y ∧ vp = .int .u8 p ∧ amL k p x y = amN a b) (fun _ vb _ => (intOf vb).toNat)
  case atStart => exact ⟨8, a, b, 0, by omega, ha, hb, hb, by omega, rfl, rfl, rfl, rfl⟩
  case round =>
    obtain ⟨k, x, y, p, hk, hx, hyk, hy, hp, rfl, rfl, rfl, hm⟩ := hrel
    have HM := Lib.hid hm
    have HY := Lib.hid hyk
    clear hm hyk
    by_cases hy0 : y = 0
    · subst hy0
      go_wp2
      go_ret
      have := HM.out
      rw [amL_zero] at this
      exact ⟨by rw [← this]; rfl, rfl⟩
    · have hne : ((y : Int) != 0) = true := by rw [bne_iff_ne]; omega
      obtain ⟨k, rfl⟩ : ∃ k', k = k' + 1 := by
        cases k with
        | zero => have := HY.out; simp at this; exact absurd this hy0
        | succ k => exact ⟨k, rfl⟩
      have hstep := HM.out
      have hyk := HY.out
      rw [Nat.pow_succ] at hyk
      have HYK := Lib.hid hyk
      simp only [amL] at hstep
      have HS := Lib.hid hstep
      clear hstep hyk
      have b1 := and_one y hy
      have x1 := xor_val p x hp hx
      have X1 := Lib.hid x1
      clear x1
      have hxt := ax_lt hx
      have l1 : p ^^^ x < 256 := Nat.xor_lt_two_pow (n := 8) hp hx
      rcases Nat.mod_two_eq_zero_or_one y with e1 | e1
      all_goals
        rw [e1] at b1
        have HE1 := Lib.hid e1
        clear e1
        go_wp2_with (go_at_call 52; refine (doubleN_any x _ hx).mono ?_; rintro e w' ⟨rfl, rfl⟩)
        go_round
        case measure => simp [intOf]; omega
        case rel =>
          refine ⟨k, ax x, y / 2, (if y % 2 = 1 then p ^^^ x else p), by omega, hxt, by have := HYK.out; omega, by omega, by split <;> assumption, rfl, rfl, ?_, HS.out⟩
          rw [HE1.out]
          first | rfl | exact congrArg (Value.int .u8) X1.out

set_option maxHeartbeats 400000 in
theorem refProdN_any (a b : Nat) (w : World) (ha : a < 256) (hb : b < 256) :
    Calls Try.prog 73 #[.int .u8 a, .int .u8 b] w fun e w' => e = .returned (.int .u8 (amN a b : Nat)) ∧ w = w' := by
  go_enter Try.func73, Try.ntmps73
  go_wp2
  go_loop [0, 1, 5, 6] (fun va vb vp vi => ∃ k x y p : Nat, k ≤ 8 ∧ x < 256 ∧ y < 256 ∧ p < 256 ∧ va = .int .u8 x ∧ vb = .int .u8 y ∧ vp = .int .u8 p ∧ vi = .int .i64 k ∧ amL (8 - k) p x y = amN a b) (fun _ _ _ vi => 8 - (intOf vi).toNat)
  case atStart => exact ⟨0, a, b, 0, by omega, ha, hb, by omega, rfl, rfl, rfl, rfl, rfl⟩
  case round =>
    obtain ⟨k, x, y, p, hk, hx, hy, hp, rfl, rfl, rfl, rfl, hm⟩ := hrel
    have HM := Lib.hid hm
    clear hm
    by_cases hk8 : k = 8
    · subst hk8
      go_wp2
      go_ret
      have := HM.out
      simp only [Nat.sub_self, amL] at this
      exact ⟨by rw [← this]; rfl, rfl⟩
    · have hstep := HM.out
      rw [show 8 - k = (8 - (k + 1)) + 1 from by omega] at hstep
      simp only [amL] at hstep
      have HS := Lib.hid hstep
      clear hstep
      have x1 := xor_val p x hp hx
      have x2 := xor_val (x * 2 % 256) 27 (by omega) (by omega)
      have X1 := Lib.hid x1
      have X2 := Lib.hid x2
      clear x1 x2
      have hxt := ax_lt hx
      have l1 : p ^^^ x < 256 := Nat.xor_lt_two_pow (n := 8) hp hx
      rcases Nat.mod_two_eq_zero_or_one y with e1 | e1
      all_goals by_cases e2 : x < 128
      all_goals
        have HE1 := Lib.hid e1
        have d1 : ((y : Int) % 2 == 1) = decide (y % 2 = 1) := by rw [Bool.eq_iff_iff]; simp; omega
        have d2 : decide ((128 : Int) ≤ (x : Int)) = decide (128 ≤ x) := by rw [decide_eq_decide]; omega
        first | rw [decide_eq_false (by omega : ¬ y % 2 = 1)] at d1 | rw [decide_eq_true (by omega : y % 2 = 1)] at d1
        first | rw [decide_eq_false (by omega : ¬ 128 ≤ x)] at d2 | rw [decide_eq_true (by omega : 128 ≤ x)] at d2
        clear e1
        go_wp2
        go_round
        case measure => simp [intOf]; omega
        case rel =>
          refine ⟨k + 1, ax x, y / 2, (if y % 2 = 1 then p ^^^ x else p), by omega, hxt, by omega, by split <;> assumption, ?_, rfl, ?_, by go_num, HS.out⟩
          · unfold ax
            first | (rw [if_pos e2]; go_num) | (rw [if_neg e2]; exact congrArg (Value.int .u8) (xor_27 x X2.out (by omega)))
          · rw [HE1.out]
            first | rfl | exact congrArg (Value.int .u8) X1.out

end Go.Proofs.Ytblgdfamomlklaa
/- aes: Inverse, turn, Sub, Unsub; the document's. -/
namespace Go.Proofs.Ytblgdfamomlklaa
open Go.RowKit

theorem prod_i (x y : Int) (a b : UInt8) (w : World) (hx : (a.toNat : Int) = x) (hy : (b.toNat : Int) = y) :
    Calls Try.prog 75 #[.int .u8 x, .int .u8 y] w fun e w' => e = .returned (.int .u8 ((am a b).toNat : Nat)) ∧ w = w' := by
  subst hx; subst hy
  rw [am_toNat]
  exact prodN_any _ _ _ a.toNat_lt b.toNat_lt
theorem refProd_i (x y : Int) (a b : UInt8) (w : World) (hx : (a.toNat : Int) = x) (hy : (b.toNat : Int) = y) :
    Calls Try.prog 73 #[.int .u8 x, .int .u8 y] w fun e w' => e = .returned (.int .u8 ((am a b).toNat : Nat)) ∧ w = w' := by
  subst hx; subst hy
  rw [am_toNat]
  exact refProdN_any _ _ _ a.toNat_lt b.toNat_lt
theorem xor_u8 (a b : UInt8) : bits .xor .u8 (a.toNat : Int) (b.toNat : Int) = ((a ^^^ b).toNat : Int) := by
  rw [xor_val _ _ a.toNat_lt b.toNat_lt, UInt8.toNat_xor]
theorem u8_beq (a b : UInt8) : ((a.toNat : Int) == (b.toNat : Int)) = decide (a = b) := by
  rw [Bool.eq_iff_iff, beq_iff_eq, decide_eq_true_iff]
  constructor
  · intro h; exact UInt8.toNat_inj.1 (by omega)
  · rintro rfl; rfl
theorem u8_bne (a b : UInt8) : ((a.toNat : Int) != (b.toNat : Int)) = !decide (a = b) := by
  rw [← u8_beq]; rfl

set_option maxHeartbeats 400000 in
theorem inverse_i (x : Int) (a : UInt8) (w : World) (hx : (a.toNat : Int) = x) :
    Calls Try.prog 69 #[.int .u8 x] w fun e w' => e = .returned (.int .u8 ((ainv a).toNat : Nat)) ∧ w = w' := by
  subst hx
  go_enter Try.func69, Try.ntmps69
  go_wp2
  go_loop [0, 3, 4] (fun va vp vi => ∃ (k : Nat) (x p : UInt8), k ≤ 7 ∧ va = .int .u8 (x.toNat : Int) ∧ vp = .int .u8 (p.toNat : Int) ∧ vi = .int .i64 k ∧ ainvL (7 - k) p x = ainv a) (fun _ _ vi => 7 - (intOf vi).toNat)
  case atStart => exact ⟨0, a, 1, by omega, rfl, rfl, rfl, rfl⟩
  case round =>
    obtain ⟨k, x, p, hk, rfl, rfl, rfl, hm⟩ := hrel
    have HM := Lib.hid hm
    clear hm
    by_cases hk8 : k < 7
    · go_wp2_with fail
      refine (prod_i _ _ x x _ rfl rfl).mono ?_
      rintro e w' ⟨rfl, rfl⟩
      go_wp2_with fail
      refine (prod_i _ _ p (am x x) _ rfl rfl).mono ?_
      rintro e w' ⟨rfl, rfl⟩
      go_wp2_with fail
      go_round
      case rel => exact ⟨k + 1, am x x, am p (am x x), by omega, rfl, rfl, by go_num, by have := HM.out; rw [show 7 - k = (7 - (k + 1)) + 1 from by omega] at this; exact this⟩
      case measure => simp [intOf]; omega
    · obtain rfl : k = 7 := by omega
      have hp : p = ainv a := HM.out
      subst hp
      go_wp2_with fail
      go_ret
      exact ⟨rfl, rfl⟩

set_option maxHeartbeats 400000 in
theorem refInverse_i (x : Int) (a : UInt8) (w : World) (hx : (a.toNat : Int) = x) :
    Calls Try.prog 76 #[.int .u8 x] w fun e w' => e = .returned (.int .u8 ((ainv a).toNat : Nat)) ∧ w = w' := by
  subst hx
  go_enter Try.func76, Try.ntmps76
  go_wp2
  go_loop [0, 3, 4] (fun va vp vi => ∃ (k : Nat) (x p : UInt8), k ≤ 7 ∧ va = .int .u8 (x.toNat : Int) ∧ vp = .int .u8 (p.toNat : Int) ∧ vi = .int .i64 k ∧ ainvL (7 - k) p x = ainv a) (fun _ _ vi => 7 - (intOf vi).toNat)
  case atStart => exact ⟨0, a, 1, by omega, rfl, rfl, rfl, rfl⟩
  case round =>
    obtain ⟨k, x, p, hk, rfl, rfl, rfl, hm⟩ := hrel
    have HM := Lib.hid hm
    clear hm
    by_cases hk8 : k < 7
    · go_wp2_with fail
      refine (refProd_i _ _ x x _ rfl rfl).mono ?_
      rintro e w' ⟨rfl, rfl⟩
      go_wp2_with fail
      refine (refProd_i _ _ p (am x x) _ rfl rfl).mono ?_
      rintro e w' ⟨rfl, rfl⟩
      go_wp2_with fail
      go_round
      case rel => exact ⟨k + 1, am x x, am p (am x x), by omega, rfl, rfl, by go_num, by have := HM.out; rw [show 7 - k = (7 - (k + 1)) + 1 from by omega] at this; exact this⟩
      case measure => simp [intOf]; omega
    · obtain rfl : k = 7 := by omega
      have hp : p = ainv a := HM.out
      subst hp
      go_wp2_with fail
      go_ret
      exact ⟨rfl, rfl⟩

/-- the bits of a byte turned to the left -/
def rotN (k x : Nat) : Nat := (x * 2 ^ k % 256) ||| (x / 2 ^ (8 - k))
theorem rotN_lt {k x : Nat} (hx : x < 256) (hk : k ≤ 8) : rotN k x < 256 := by
  unfold rotN
  refine Nat.or_lt_two_pow (n := 8) (by omega) ?_
  have := Nat.div_le_self x (2 ^ (8 - k))
  omega
set_option maxHeartbeats 400000 in
theorem turn_any (x k : Nat) (hx : x < 256) (hk : k = 1 ∨ k = 2 ∨ k = 3 ∨ k = 4 ∨ k = 6) (w : World) :
    Calls Try.prog 70 #[.int .u8 x, .int .u64 k] w fun e w' => e = .returned (.int .u8 (rotN k x : Nat)) ∧ w = w' := by
  have h1 := u8_or_nat (x * 2 ^ k % 256) (x / 2 ^ (8 - k)) (by omega) (by have := Nat.div_le_self x (2 ^ (8 - k)); omega)
  have H1 := Lib.hid h1
  clear h1
  rcases hk with rfl | rfl | rfl | rfl | rfl
  all_goals
    go_enter Try.func70, Try.ntmps70
    go_wp2
    go_ret
    refine ⟨congrArg Ending.returned (congrArg (Value.int .u8) ?_), rfl⟩
    have := H1.out
    simpa [rotN] using this

end Go.Proofs.Ytblgdfamomlklaa
/- aes: Sub, Unsub; the document's. -/
namespace Go.Proofs.Ytblgdfamomlklaa
open Go.RowKit

def asubB (b : Nat) : Nat := ((((b ^^^ rotN 1 b) ^^^ rotN 2 b) ^^^ rotN 3 b) ^^^ rotN 4 b) ^^^ 99
def asub (a : UInt8) : UInt8 := UInt8.ofNat (asubB (ainv a).toNat)
def aunB (a : Nat) : Nat := ((rotN 1 a ^^^ rotN 3 a) ^^^ rotN 6 a) ^^^ 5
def aunsub (a : UInt8) : UInt8 := ainv (UInt8.ofNat (aunB a.toNat))
/-- bit number i modulo 8 -/
def bitN (b i : Nat) : Nat := b / 2 ^ (i % 8) % 2
def xbN (b i : Nat) : Nat := ((((bitN b i ^^^ bitN b (i + 4)) ^^^ bitN b (i + 5)) ^^^ bitN b (i + 6)) ^^^ bitN b (i + 7)) ^^^ bitN 99 i
def accN (b : Nat) : Nat → Nat
  | 0 => 0
  | k + 1 => accN b k ||| (xbN b k * 2 ^ k % 256)

theorem x_lt {a b : Nat} (ha : a < 256) (hb : b < 256) : a ^^^ b < 256 := Nat.xor_lt_two_pow (n := 8) ha hb
theorem bitN_lt (b i : Nat) : bitN b i < 256 := by unfold bitN; omega
theorem accN_lt (b k : Nat) : accN b k < 256 := by
  induction k with
  | zero => show 0 < 256; omega
  | succ k ih => exact Nat.or_lt_two_pow (n := 8) ih (by omega)
theorem asubB_lt {b : Nat} (hb : b < 256) : asubB b < 256 := by
  unfold asubB
  exact x_lt (x_lt (x_lt (x_lt (x_lt hb (rotN_lt hb (by omega))) (rotN_lt hb (by omega))) (rotN_lt hb (by omega))) (rotN_lt hb (by omega))) (by omega)
theorem aunB_lt {b : Nat} (hb : b < 256) : aunB b < 256 := by
  unfold aunB
  exact x_lt (x_lt (x_lt (rotN_lt hb (by omega)) (rotN_lt hb (by omega))) (rotN_lt hb (by omega))) (by omega)
theorem all256 {p : UInt8 → Bool} (h : (List.range 256).all (fun i => p (UInt8.ofNat i)) = true) (a : UInt8) : p a = true := by
  have := List.all_eq_true.1 h a.toNat (by simpa using a.toNat_lt)
  rwa [UInt8.ofNat_toNat] at this
theorem ofNat_u8 {n : Nat} (h : n < 256) : (UInt8.ofNat n).toNat = n := by rw [UInt8.toNat_ofNat', Nat.mod_eq_of_lt h]
theorem acc_sub (a : UInt8) : accN (ainv a).toNat 8 = asubB (ainv a).toNat := by
  have := all256 (p := fun b => accN b.toNat 8 == asubB b.toNat) (by decide +kernel) (ainv a)
  simpa using this
theorem un_sub (a : UInt8) : aunsub (asub a) = a := by
  have := all256 (p := fun b => aunsub (asub b) == b) (by decide +kernel) a
  simpa using this
theorem sub_un (a : UInt8) : asub (aunsub a) = a := by
  have := all256 (p := fun b => asub (aunsub b) == b) (by decide +kernel) a
  simpa using this

set_option maxRecDepth 100000 in
set_option maxHeartbeats 1000000 in
theorem sub_i (x : Int) (a : UInt8) (w : World) (hx : (a.toNat : Int) = x) :
    Calls Try.prog 51 #[.int .u8 x] w fun e w' => e = .returned (.int .u8 ((asub a).toNat : Nat)) ∧ w = w' := by
  subst hx
  have e : (asub a).toNat = asubB (ainv a).toNat := ofNat_u8 (asubB_lt (ainv a).toNat_lt)
  rw [e]
  clear e
  have hb := (ainv a).toNat_lt
  obtain ⟨b, hbe⟩ : ∃ b, b = (ainv a).toNat := ⟨_, rfl⟩
  have hc := fun w => inverse_i _ a w rfl
  rw [← hbe] at hb hc ⊢
  have HC := Lib.hid hc
  clear hc hbe
  obtain ⟨r1, e1⟩ : ∃ r, r = rotN 1 b := ⟨_, rfl⟩
  obtain ⟨r2, e2⟩ : ∃ r, r = rotN 2 b := ⟨_, rfl⟩
  obtain ⟨r3, e3⟩ : ∃ r, r = rotN 3 b := ⟨_, rfl⟩
  obtain ⟨r4, e4⟩ : ∃ r, r = rotN 4 b := ⟨_, rfl⟩
  have l1 : r1 < 256 := e1 ▸ rotN_lt hb (by omega)
  have l2 : r2 < 256 := e2 ▸ rotN_lt hb (by omega)
  have l3 : r3 < 256 := e3 ▸ rotN_lt hb (by omega)
  have l4 : r4 < 256 := e4 ▸ rotN_lt hb (by omega)
  have t1 := fun w => turn_any b 1 hb (by omega) w
  have t2 := fun w => turn_any b 2 hb (by omega) w
  have t3 := fun w => turn_any b 3 hb (by omega) w
  have t4 := fun w => turn_any b 4 hb (by omega) w
  have x1 := xor_val b r1 hb l1
  have x2 := xor_val (b ^^^ r1) r2 (x_lt hb l1) l2
  have x3 := xor_val ((b ^^^ r1) ^^^ r2) r3 (x_lt (x_lt hb l1) l2) l3
  have x4 := xor_val (((b ^^^ r1) ^^^ r2) ^^^ r3) r4 (x_lt (x_lt (x_lt hb l1) l2) l3) l4
  have x5 := xor_val ((((b ^^^ r1) ^^^ r2) ^^^ r3) ^^^ r4) 99 (x_lt (x_lt (x_lt (x_lt hb l1) l2) l3) l4) (by omega)
  have x5' : bits .xor .u8 (((((b ^^^ r1) ^^^ r2) ^^^ r3) ^^^ r4 : Nat) : Int) 99 = ((((((b ^^^ r1) ^^^ r2) ^^^ r3) ^^^ r4) ^^^ 99 : Nat) : Int) := x5
  unfold asubB
  rw [← e1, ← e2, ← e3, ← e4]
  rw [← e1] at t1
  rw [← e2] at t2
  rw [← e3] at t3
  rw [← e4] at t4
  have T1 := Lib.hid t1
  have T2 := Lib.hid t2
  have T3 := Lib.hid t3
  have T4 := Lib.hid t4
  clear t1 t2 t3 t4 e1 e2 e3 e4 l1 l2 l3 l4 x5
  go_enter Try.func51, Try.ntmps51
  go_wp2_with fail
  refine (HC.out _).mono ?_
  rintro e w' ⟨rfl, rfl⟩
  go_wp2_with fail
  refine (T1.out _).mono ?_
  rintro e w' ⟨rfl, rfl⟩
  go_wp2_with fail
  refine (T2.out _).mono ?_
  rintro e w' ⟨rfl, rfl⟩
  go_wp2_with fail
  refine (T3.out _).mono ?_
  rintro e w' ⟨rfl, rfl⟩
  go_wp2_with fail
  refine (T4.out _).mono ?_
  rintro e w' ⟨rfl, rfl⟩
  go_wp2_with fail
  go_ret
  exact ⟨rfl, rfl⟩

set_option maxRecDepth 100000 in
set_option maxHeartbeats 1000000 in
theorem bit_i (x y : Int) (b i : Nat) (w : World) (hx : (b : Int) = x) (hy : (i : Int) = y) (hb : b < 256) (hi : i < 15) :
    Calls Try.prog 77 #[.int .u8 x, .int .i64 y] w fun e w' => e = .returned (.int .u8 (bitN b i : Nat)) ∧ w = w' := by
  subst hx; subst hy
  have h1 := and_one (b / 2 ^ (i % 8)) (by have := Nat.div_le_self b (2 ^ (i % 8)); omega)
  have H1 := Lib.hid h1
  clear h1
  rcases (by omega : i = 0 ∨ i = 1 ∨ i = 2 ∨ i = 3 ∨ i = 4 ∨ i = 5 ∨ i = 6 ∨ i = 7 ∨ i = 8 ∨ i = 9 ∨ i = 10 ∨ i = 11 ∨ i = 12 ∨ i = 13 ∨ i = 14) with rfl | rfl | rfl | rfl | rfl | rfl | rfl | rfl | rfl | rfl | rfl | rfl | rfl | rfl | rfl
  all_goals
    go_enter Try.func77, Try.ntmps77
    go_wp2
    go_ret
    refine ⟨congrArg Ending.returned (congrArg (Value.int .u8) ?_), rfl⟩
    have := H1.out
    simpa [bitN] using this

set_option maxRecDepth 100000 in
set_option maxHeartbeats 4000000 in
theorem refSub_i (x : Int) (a : UInt8) (w : World) (hx : (a.toNat : Int) = x) :
    Calls Try.prog 72 #[.int .u8 x] w fun e w' => e = .returned (.int .u8 ((asub a).toNat : Nat)) ∧ w = w' := by
  subst hx
  have e : (asub a).toNat = asubB (ainv a).toNat := ofNat_u8 (asubB_lt (ainv a).toNat_lt)
  rw [e, ← acc_sub]
  clear e
  have hb := (ainv a).toNat_lt
  obtain ⟨b, hbe⟩ : ∃ b, b = (ainv a).toNat := ⟨_, rfl⟩
  have hc := fun w => refInverse_i _ a w rfl
  rw [← hbe] at hb hc ⊢
  have HC := Lib.hid hc
  clear hc hbe
  go_enter Try.func72, Try.ntmps72
  go_wp2_with fail
  refine (HC.out _).mono ?_
  rintro e w' ⟨rfl, rfl⟩
  go_wp2_with fail
  go_loop [4, 5] (fun vo vi => ∃ k : Nat, k ≤ 8 ∧ vi = .int .i64 k ∧ vo = .int .u8 (accN b k : Nat)) (fun _ vi => 8 - (intOf vi).toNat)
  case atStart => exact ⟨0, by omega, rfl, rfl⟩
  case round =>
    obtain ⟨k, hk, rfl, rfl⟩ := hrel
    rcases (by omega : k = 0 ∨ k = 1 ∨ k = 2 ∨ k = 3 ∨ k = 4 ∨ k = 5 ∨ k = 6 ∨ k = 7 ∨ k = 8) with rfl | rfl | rfl | rfl | rfl | rfl | rfl | rfl | rfl
    · -- round 0
      have l0 := bitN_lt b 0
      have l4 := bitN_lt b 4
      have l5 := bitN_lt b 5
      have l6 := bitN_lt b 6
      have l7 := bitN_lt b 7
      have l9 := bitN_lt 99 0
      have x1 := xor_val _ _ l0 l4
      have x2 := xor_val _ _ (x_lt l0 l4) l5
      have x3 := xor_val _ _ (x_lt (x_lt l0 l4) l5) l6
      have x4 := xor_val _ _ (x_lt (x_lt (x_lt l0 l4) l5) l6) l7
      have x5 := xor_val _ _ (x_lt (x_lt (x_lt (x_lt l0 l4) l5) l6) l7) l9
      have ho := u8_or_nat (accN b 0) (xbN b 0 * 2 ^ 0 % 256) (accN_lt b 0) (by omega)
      have HO := Lib.hid ho
      clear ho l0 l4 l5 l6 l7 l9
      go_wp2_with fail
      refine (bit_i _ _ b 0 _ rfl rfl (by omega) (by omega)).mono ?_
      rintro e w' ⟨rfl, rfl⟩
      go_wp2_with fail
      refine (bit_i _ _ b 4 _ rfl rfl (by omega) (by omega)).mono ?_
      rintro e w' ⟨rfl, rfl⟩
      go_wp2_with fail
      refine (bit_i _ _ b 5 _ rfl rfl (by omega) (by omega)).mono ?_
      rintro e w' ⟨rfl, rfl⟩
      go_wp2_with fail
      refine (bit_i _ _ b 6 _ rfl rfl (by omega) (by omega)).mono ?_
      rintro e w' ⟨rfl, rfl⟩
      go_wp2_with fail
      refine (bit_i _ _ b 7 _ rfl rfl (by omega) (by omega)).mono ?_
      rintro e w' ⟨rfl, rfl⟩
      go_wp2_with fail
      refine (bit_i _ _ 99 0 _ rfl rfl (by omega) (by omega)).mono ?_
      rintro e w' ⟨rfl, rfl⟩
      go_wp2_with fail
      go_round
      case rel =>
        refine ⟨1, by omega, rfl, congrArg (Value.int .u8) ?_⟩
        have := HO.out
        simpa [accN, xbN] using this
      case measure => simp [intOf]
    · -- round 1
      have l0 := bitN_lt b 1
      have l4 := bitN_lt b 5
      have l5 := bitN_lt b 6
      have l6 := bitN_lt b 7
      have l7 := bitN_lt b 8
      have l9 := bitN_lt 99 1
      have x1 := xor_val _ _ l0 l4
      have x2 := xor_val _ _ (x_lt l0 l4) l5
      have x3 := xor_val _ _ (x_lt (x_lt l0 l4) l5) l6
      have x4 := xor_val _ _ (x_lt (x_lt (x_lt l0 l4) l5) l6) l7
      have x5 := xor_val _ _ (x_lt (x_lt (x_lt (x_lt l0 l4) l5) l6) l7) l9
      have ho := u8_or_nat (accN b 1) (xbN b 1 * 2 ^ 1 % 256) (accN_lt b 1) (by omega)
      have HO := Lib.hid ho
      clear ho l0 l4 l5 l6 l7 l9
      go_wp2_with fail
      refine (bit_i _ _ b 1 _ rfl rfl (by omega) (by omega)).mono ?_
      rintro e w' ⟨rfl, rfl⟩
      go_wp2_with fail
      refine (bit_i _ _ b 5 _ rfl rfl (by omega) (by omega)).mono ?_
      rintro e w' ⟨rfl, rfl⟩
      go_wp2_with fail
      refine (bit_i _ _ b 6 _ rfl rfl (by omega) (by omega)).mono ?_
      rintro e w' ⟨rfl, rfl⟩
      go_wp2_with fail
      refine (bit_i _ _ b 7 _ rfl rfl (by omega) (by omega)).mono ?_
      rintro e w' ⟨rfl, rfl⟩
      go_wp2_with fail
      refine (bit_i _ _ b 8 _ rfl rfl (by omega) (by omega)).mono ?_
      rintro e w' ⟨rfl, rfl⟩
      go_wp2_with fail
      refine (bit_i _ _ 99 1 _ rfl rfl (by omega) (by omega)).mono ?_
      rintro e w' ⟨rfl, rfl⟩
      go_wp2_with fail
      go_round
      case rel =>
        refine ⟨2, by omega, rfl, congrArg (Value.int .u8) ?_⟩
        have := HO.out
        simpa [accN, xbN] using this
      case measure => simp [intOf]
    · -- round 2
      have l0 := bitN_lt b 2
      have l4 := bitN_lt b 6
      have l5 := bitN_lt b 7
      have l6 := bitN_lt b 8
      have l7 := bitN_lt b 9
      have l9 := bitN_lt 99 2
      have x1 := xor_val _ _ l0 l4
      have x2 := xor_val _ _ (x_lt l0 l4) l5
      have x3 := xor_val _ _ (x_lt (x_lt l0 l4) l5) l6
      have x4 := xor_val _ _ (x_lt (x_lt (x_lt l0 l4) l5) l6) l7
      have x5 := xor_val _ _ (x_lt (x_lt (x_lt (x_lt l0 l4) l5) l6) l7) l9
      have ho := u8_or_nat (accN b 2) (xbN b 2 * 2 ^ 2 % 256) (accN_lt b 2) (by omega)
      have HO := Lib.hid ho
      clear ho l0 l4 l5 l6 l7 l9
      go_wp2_with fail
      refine (bit_i _ _ b 2 _ rfl rfl (by omega) (by omega)).mono ?_
      rintro e w' ⟨rfl, rfl⟩
      go_wp2_with fail
      refine (bit_i _ _ b 6 _ rfl rfl (by omega) (by omega)).mono ?_
      rintro e w' ⟨rfl, rfl⟩
      go_wp2_with fail
      refine (bit_i _ _ b 7 _ rfl rfl (by omega) (by omega)).mono ?_
      rintro e w' ⟨rfl, rfl⟩
      go_wp2_with fail
      refine (bit_i _ _ b 8 _ rfl rfl (by omega) (by omega)).mono ?_
      rintro e w' ⟨rfl, rfl⟩
      go_wp2_with fail
      refine (bit_i _ _ b 9 _ rfl rfl (by omega) (by omega)).mono ?_
      rintro e w' ⟨rfl, rfl⟩
      go_wp2_with fail
      refine (bit_i _ _ 99 2 _ rfl rfl (by omega) (by omega)).mono ?_
      rintro e w' ⟨rfl, rfl⟩
      go_wp2_with fail
      go_round
      case rel =>
        refine ⟨3, by omega, rfl, congrArg (Value.int .u8) ?_⟩
        have := HO.out
        simpa [accN, xbN] using this
      case measure => simp [intOf]
    · -- round 3
      have l0 := bitN_lt b 3
      have l4 := bitN_lt b 7
      have l5 := bitN_lt b 8
      have l6 := bitN_lt b 9
      have l7 := bitN_lt b 10
      have l9 := bitN_lt 99 3
      have x1 := xor_val _ _ l0 l4
      have x2 := xor_val _ _ (x_lt l0 l4) l5
      have x3 := xor_val _ _ (x_lt (x_lt l0 l4) l5) l6
      have x4 := xor_val _ _ (x_lt (x_lt (x_lt l0 l4) l5) l6) l7
      have x5 := xor_val _ _ (x_lt (x_lt (x_lt (x_lt l0 l4) l5) l6) l7) l9
      have ho := u8_or_nat (accN b 3) (xbN b 3 * 2 ^ 3 % 256) (accN_lt b 3) (by omega)
      have HO := Lib.hid ho
      clear ho l0 l4 l5 l6 l7 l9
      go_wp2_with fail
      refine (bit_i _ _ b 3 _ rfl rfl (by omega) (by omega)).mono ?_
      rintro e w' ⟨rfl, rfl⟩
      go_wp2_with fail
      refine (bit_i _ _ b 7 _ rfl rfl (by omega) (by omega)).mono ?_
      rintro e w' ⟨rfl, rfl⟩
      go_wp2_with fail
      refine (bit_i _ _ b 8 _ rfl rfl (by omega) (by omega)).mono ?_
      rintro e w' ⟨rfl, rfl⟩
      go_wp2_with fail
      refine (bit_i _ _ b 9 _ rfl rfl (by omega) (by omega)).mono ?_
      rintro e w' ⟨rfl, rfl⟩
      go_wp2_with fail
      refine (bit_i _ _ b 10 _ rfl rfl (by omega) (by omega)).mono ?_
      rintro e w' ⟨rfl, rfl⟩
      go_wp2_with fail
      refine (bit_i _ _ 99 3 _ rfl rfl (by omega) (by omega)).mono ?_
      rintro e w' ⟨rfl, rfl⟩
      go_wp2_with fail
      go_round
      case rel =>
        refine ⟨4, by omega, rfl, congrArg (Value.int .u8) ?_⟩
        have := HO.out
        simpa [accN, xbN] using this
      case measure => simp [intOf]
    · -- round 4
      have l0 := bitN_lt b 4
      have l4 := bitN_lt b 8
      have l5 := bitN_lt b 9
      have l6 := bitN_lt b 10
      have l7 := bitN_lt b 11
      have l9 := bitN_lt 99 4
      have x1 := xor_val _ _ l0 l4
      have x2 := xor_val _ _ (x_lt l0 l4) l5
      have x3 := xor_val _ _ (x_lt (x_lt l0 l4) l5) l6
      have x4 := xor_val _ _ (x_lt (x_lt (x_lt l0 l4) l5) l6) l7
      have x5 := xor_val _ _ (x_lt (x_lt (x_lt (x_lt l0 l4) l5) l6) l7) l9
      have ho := u8_or_nat (accN b 4) (xbN b 4 * 2 ^ 4 % 256) (accN_lt b 4) (by omega)
      have HO := Lib.hid ho
      clear ho l0 l4 l5 l6 l7 l9
      go_wp2_with fail
      refine (bit_i _ _ b 4 _ rfl rfl (by omega) (by omega)).mono ?_
      rintro e w' ⟨rfl, rfl⟩
      go_wp2_with fail
      refine (bit_i _ _ b 8 _ rfl rfl (by omega) (by omega)).mono ?_
      rintro e w' ⟨rfl, rfl⟩
      go_wp2_with fail
      refine (bit_i _ _ b 9 _ rfl rfl (by omega) (by omega)).mono ?_
      rintro e w' ⟨rfl, rfl⟩
      go_wp2_with fail
      refine (bit_i _ _ b 10 _ rfl rfl (by omega) (by omega)).mono ?_
      rintro e w' ⟨rfl, rfl⟩
      go_wp2_with fail
      refine (bit_i _ _ b 11 _ rfl rfl (by omega) (by omega)).mono ?_
      rintro e w' ⟨rfl, rfl⟩
      go_wp2_with fail
      refine (bit_i _ _ 99 4 _ rfl rfl (by omega) (by omega)).mono ?_
      rintro e w' ⟨rfl, rfl⟩
      go_wp2_with fail
      go_round
      case rel =>
        refine ⟨5, by omega, rfl, congrArg (Value.int .u8) ?_⟩
        have := HO.out
        simpa [accN, xbN] using this
      case measure => simp [intOf]
    · -- round 5
      have l0 := bitN_lt b 5
      have l4 := bitN_lt b 9
      have l5 := bitN_lt b 10
      have l6 := bitN_lt b 11
      have l7 := bitN_lt b 12
      have l9 := bitN_lt 99 5
      have x1 := xor_val _ _ l0 l4
      have x2 := xor_val _ _ (x_lt l0 l4) l5
      have x3 := xor_val _ _ (x_lt (x_lt l0 l4) l5) l6
      have x4 := xor_val _ _ (x_lt (x_lt (x_lt l0 l4) l5) l6) l7
      have x5 := xor_val _ _ (x_lt (x_lt (x_lt (x_lt l0 l4) l5) l6) l7) l9
      have ho := u8_or_nat (accN b 5) (xbN b 5 * 2 ^ 5 % 256) (accN_lt b 5) (by omega)
      have HO := Lib.hid ho
      clear ho l0 l4 l5 l6 l7 l9
      go_wp2_with fail
      refine (bit_i _ _ b 5 _ rfl rfl (by omega) (by omega)).mono ?_
      rintro e w' ⟨rfl, rfl⟩
      go_wp2_with fail
      refine (bit_i _ _ b 9 _ rfl rfl (by omega) (by omega)).mono ?_
      rintro e w' ⟨rfl, rfl⟩
      go_wp2_with fail
      refine (bit_i _ _ b 10 _ rfl rfl (by omega) (by omega)).mono ?_
      rintro e w' ⟨rfl, rfl⟩
      go_wp2_with fail
      refine (bit_i _ _ b 11 _ rfl rfl (by omega) (by omega)).mono ?_
      rintro e w' ⟨rfl, rfl⟩
      go_wp2_with fail
      refine (bit_i _ _ b 12 _ rfl rfl (by omega) (by omega)).mono ?_
      rintro e w' ⟨rfl, rfl⟩
      go_wp2_with fail
      refine (bit_i _ _ 99 5 _ rfl rfl (by omega) (by omega)).mono ?_
      rintro e w' ⟨rfl, rfl⟩
      go_wp2_with fail
      go_round
      case rel =>
        refine ⟨6, by omega, rfl, congrArg (Value.int .u8) ?_⟩
        have := HO.out
        simpa [accN, xbN] using this
      case measure => simp [intOf]
    · -- round 6
      have l0 := bitN_lt b 6
      have l4 := bitN_lt b 10
      have l5 := bitN_lt b 11
      have l6 := bitN_lt b 12
      have l7 := bitN_lt b 13
      have l9 := bitN_lt 99 6
      have x1 := xor_val _ _ l0 l4
      have x2 := xor_val _ _ (x_lt l0 l4) l5
      have x3 := xor_val _ _ (x_lt (x_lt l0 l4) l5) l6
      have x4 := xor_val _ _ (x_lt (x_lt (x_lt l0 l4) l5) l6) l7
      have x5 := xor_val _ _ (x_lt (x_lt (x_lt (x_lt l0 l4) l5) l6) l7) l9
      have ho := u8_or_nat (accN b 6) (xbN b 6 * 2 ^ 6 % 256) (accN_lt b 6) (by omega)
      have HO := Lib.hid ho
      clear ho l0 l4 l5 l6 l7 l9
      go_wp2_with fail
      refine (bit_i _ _ b 6 _ rfl rfl (by omega) (by omega)).mono ?_
      rintro e w' ⟨rfl, rfl⟩
      go_wp2_with fail
      refine (bit_i _ _ b 10 _ rfl rfl (by omega) (by omega)).mono ?_
      rintro e w' ⟨rfl, rfl⟩
      go_wp2_with fail
      refine (bit_i _ _ b 11 _ rfl rfl (by omega) (by omega)).mono ?_
      rintro e w' ⟨rfl, rfl⟩
      go_wp2_with fail
      refine (bit_i _ _ b 12 _ rfl rfl (by omega) (by omega)).mono ?_
      rintro e w' ⟨rfl, rfl⟩
      go_wp2_with fail
      refine (bit_i _ _ b 13 _ rfl rfl (by omega) (by omega)).mono ?_
      rintro e w' ⟨rfl, rfl⟩
      go_wp2_with fail
      refine (bit_i _ _ 99 6 _ rfl rfl (by omega) (by omega)).mono ?_
      rintro e w' ⟨rfl, rfl⟩
      go_wp2_with fail
      go_round
      case rel =>
        refine ⟨7, by omega, rfl, congrArg (Value.int .u8) ?_⟩
        have := HO.out
        simpa [accN, xbN] using this
      case measure => simp [intOf]
    · -- round 7
      have l0 := bitN_lt b 7
      have l4 := bitN_lt b 11
      have l5 := bitN_lt b 12
      have l6 := bitN_lt b 13
      have l7 := bitN_lt b 14
      have l9 := bitN_lt 99 7
      have x1 := xor_val _ _ l0 l4
      have x2 := xor_val _ _ (x_lt l0 l4) l5
      have x3 := xor_val _ _ (x_lt (x_lt l0 l4) l5) l6
      have x4 := xor_val _ _ (x_lt (x_lt (x_lt l0 l4) l5) l6) l7
      have x5 := xor_val _ _ (x_lt (x_lt (x_lt (x_lt l0 l4) l5) l6) l7) l9
      have ho := u8_or_nat (accN b 7) (xbN b 7 * 2 ^ 7 % 256) (accN_lt b 7) (by omega)
      have HO := Lib.hid ho
      clear ho l0 l4 l5 l6 l7 l9
      go_wp2_with fail
      refine (bit_i _ _ b 7 _ rfl rfl (by omega) (by omega)).mono ?_
      rintro e w' ⟨rfl, rfl⟩
      go_wp2_with fail
      refine (bit_i _ _ b 11 _ rfl rfl (by omega) (by omega)).mono ?_
      rintro e w' ⟨rfl, rfl⟩
      go_wp2_with fail
      refine (bit_i _ _ b 12 _ rfl rfl (by omega) (by omega)).mono ?_
      rintro e w' ⟨rfl, rfl⟩
      go_wp2_with fail
      refine (bit_i _ _ b 13 _ rfl rfl (by omega) (by omega)).mono ?_
      rintro e w' ⟨rfl, rfl⟩
      go_wp2_with fail
      refine (bit_i _ _ b 14 _ rfl rfl (by omega) (by omega)).mono ?_
      rintro e w' ⟨rfl, rfl⟩
      go_wp2_with fail
      refine (bit_i _ _ 99 7 _ rfl rfl (by omega) (by omega)).mono ?_
      rintro e w' ⟨rfl, rfl⟩
      go_wp2_with fail
      go_round
      case rel =>
        refine ⟨8, by omega, rfl, congrArg (Value.int .u8) ?_⟩
        have := HO.out
        simpa [accN, xbN] using this
      case measure => simp [intOf]
    · go_wp2_with fail
      go_ret
      exact ⟨rfl, rfl⟩

end Go.Proofs.Ytblgdfamomlklaa
/- States and blocks as rows of sixteen bytes. No walk. -/
namespace Go.Proofs.Ytblgdfamomlklaa
open Go.RowKit

/-- a row of bytes as the cells of an array -/
def cellsB (l : List UInt8) : Array Value := (l.map bval).toArray
def aggB (l : List UInt8) : Value := .agg (cellsB l)

theorem ex16 {l : List UInt8} (h : l.length = 16) : ∃ x0 x1 x2 x3 x4 x5 x6 x7 x8 x9 x10 x11 x12 x13 x14 x15, l = [x0, x1, x2, x3, x4, x5, x6, x7, x8, x9, x10, x11, x12, x13, x14, x15] := by
  match l, h with
  | [x0, x1, x2, x3, x4, x5, x6, x7, x8, x9, x10, x11, x12, x13, x14, x15], _ => exact ⟨x0, x1, x2, x3, x4, x5, x6, x7, x8, x9, x10, x11, x12, x13, x14, x15, rfl⟩

/-- rows and columns changed -/
def trL : List UInt8 → List UInt8
  | [x0, x1, x2, x3, x4, x5, x6, x7, x8, x9, x10, x11, x12, x13, x14, x15] => [x0, x4, x8, x12, x1, x5, x9, x13, x2, x6, x10, x14, x3, x7, x11, x15]
  | _ => []
/-- the rows turned -/
def shL : List UInt8 → List UInt8
  | [x0, x1, x2, x3, x4, x5, x6, x7, x8, x9, x10, x11, x12, x13, x14, x15] => [x0, x1, x2, x3, x5, x6, x7, x4, x10, x11, x8, x9, x15, x12, x13, x14]
  | _ => []
def unshL : List UInt8 → List UInt8
  | [x0, x1, x2, x3, x4, x5, x6, x7, x8, x9, x10, x11, x12, x13, x14, x15] => [x0, x1, x2, x3, x7, x4, x5, x6, x10, x11, x8, x9, x13, x14, x15, x12]
  | _ => []
theorem tr_tr {l : List UInt8} (h : l.length = 16) : trL (trL l) = l := by obtain ⟨x0, x1, x2, x3, x4, x5, x6, x7, x8, x9, x10, x11, x12, x13, x14, x15, rfl⟩ := ex16 h; rfl
theorem unsh_sh {l : List UInt8} (h : l.length = 16) : unshL (shL l) = l := by obtain ⟨x0, x1, x2, x3, x4, x5, x6, x7, x8, x9, x10, x11, x12, x13, x14, x15, rfl⟩ := ex16 h; rfl
theorem sh_unsh {l : List UInt8} (h : l.length = 16) : shL (unshL l) = l := by obtain ⟨x0, x1, x2, x3, x4, x5, x6, x7, x8, x9, x10, x11, x12, x13, x14, x15, rfl⟩ := ex16 h; rfl
theorem trL_len {l : List UInt8} (h : l.length = 16) : (trL l).length = 16 := by obtain ⟨x0, x1, x2, x3, x4, x5, x6, x7, x8, x9, x10, x11, x12, x13, x14, x15, rfl⟩ := ex16 h; rfl
theorem shL_len {l : List UInt8} (h : l.length = 16) : (shL l).length = 16 := by obtain ⟨x0, x1, x2, x3, x4, x5, x6, x7, x8, x9, x10, x11, x12, x13, x14, x15, rfl⟩ := ex16 h; rfl
theorem unshL_len {l : List UInt8} (h : l.length = 16) : (unshL l).length = 16 := by obtain ⟨x0, x1, x2, x3, x4, x5, x6, x7, x8, x9, x10, x11, x12, x13, x14, x15, rfl⟩ := ex16 h; rfl

end Go.Proofs.Ytblgdfamomlklaa
/- Arrays of bytes, and arrays of such, that came in. -/
namespace Go.Proofs.Ytblgdfamomlklaa
open Go.ChangeShapes Go.WideShapes Go.ChangeAt Go.RowKit

section
variable {H : Type} {enc : TypeId × Value → H} {P : Program} {w : World} {base : Nat} {spare : Nat → Bool} {held : Bool}
theorem okWide_array {r : Reach} {b0 n : Nat} {t e : TypeId} {v : Value} (ht : P.underlying t = some (.array n e)) (h : Value.okWide P w r b0 t v) : ∃ cs, v = .agg cs ∧ cs.size = P.cellsOf t := by
  simp only [Value.okWide, ht] at h
  obtain ⟨cs, h1, h2, _⟩ := h
  exact ⟨cs, h1, h2⟩
theorem allb_list {cs : List Value} (h : ∀ v ∈ cs, ∃ b : UInt8, v = bval b) : ∃ l : List UInt8, cs = l.map bval := by
  induction cs with
  | nil => exact ⟨[], rfl⟩
  | cons v cs ih =>
    obtain ⟨b, rfl⟩ := h v (by simp)
    obtain ⟨l, rfl⟩ := ih (fun u hu => h u (by simp [hu]))
    exact ⟨b :: l, rfl⟩
theorem allb_one {n : Nat} {t e : TypeId} {fuel : Nat} {cs : List Value} {x : DataW H × List MemPlace} (ht : P.underlying t = some (.array n e)) (he : P.underlying e = some (.int .u8)) (hce : P.cellsOf e = 1) (hC : P.cellsOf t = n)
    (h : DataW.trod enc P w base spare held fuel t cs = some x) : ∀ v ∈ cs, ∃ b : UInt8, v = bval b := by
  intro v hv
  obtain ⟨xs, m, _, _, hl, hxl, hi⟩ := DataW.trod_array ht h
  obtain ⟨i, hil, rfl⟩ := List.getElem_of_mem hv
  have h1 := hi i (by omega)
  rw [hce, Nat.mul_one, List.drop_eq_getElem_cons hil, List.getElem?_eq_getElem (by omega)] at h1
  have h2 : DataW.trod enc P w base spare held m e [cs[i]] = some (xs[i]'(by omega)) := h1
  obtain ⟨a, ea, _, wa⟩ := DataW.trod_int he h2
  obtain ⟨b, rfl⟩ := byte_of_wf wa
  injection ea with ea
  exact ⟨b, ea⟩
theorem allb_two {n k : Nat} {t e f : TypeId} {fuel : Nat} {cs : List Value} {x : DataW H × List MemPlace} (ht : P.underlying t = some (.array n e)) (he : P.underlying e = some (.array k f)) (hf : P.underlying f = some (.int .u8)) (hcf : P.cellsOf f = 1) (hce : P.cellsOf e = k) (hC : P.cellsOf t = n * k) (hk : 0 < k)
    (h : DataW.trod enc P w base spare held fuel t cs = some x) : ∀ v ∈ cs, ∃ b : UInt8, v = bval b := by
  intro v hv
  obtain ⟨xs, m, _, _, hl, hxl, hi⟩ := DataW.trod_array ht h
  obtain ⟨i, hil, rfl⟩ := List.getElem_of_mem hv
  have hin : i / k < n := by rw [Nat.div_lt_iff_lt_mul hk]; omega
  have h1 := hi (i / k) hin
  rw [hce, List.getElem?_eq_getElem (by omega)] at h1
  refine allb_one he hf hcf hce h1 _ ?_
  rw [List.mem_iff_getElem?]
  refine ⟨i % k, ?_⟩
  rw [List.getElem?_take, if_pos (Nat.mod_lt _ hk), List.getElem?_drop, Nat.mul_comm, Nat.div_add_mod, List.getElem?_eq_getElem hil]
theorem open_b1 {r : Reach} {b0 n : Nat} {t e : TypeId} {v : Value} {d : DataW H} {p : List MemPlace} (ht : P.underlying t = some (.array n e)) (he : P.underlying e = some (.int .u8)) (hce : P.cellsOf e = 1) (hC : P.cellsOf t = n)
    (hv : Value.okWide P w r b0 t v) (h : DataW.Trod enc P w base spare held t v d p) : ∃ l : List UInt8, l.length = n ∧ v = aggB l := by
  obtain ⟨cs, rfl, hs⟩ := okWide_array ht hv
  obtain ⟨fuel, hf⟩ := h
  obtain ⟨l, hl⟩ := allb_list (allb_one ht he hce hC hf)
  have hl' : cs.toList = l.map bval := hl
  refine ⟨l, ?_, ?_⟩
  · have := congrArg List.length hl'
    simp at this
    omega
  · unfold aggB cellsB
    rw [← hl']
theorem open_b2 {r : Reach} {b0 n k : Nat} {t e f : TypeId} {v : Value} {d : DataW H} {p : List MemPlace} (ht : P.underlying t = some (.array n e)) (he : P.underlying e = some (.array k f)) (hf : P.underlying f = some (.int .u8)) (hcf : P.cellsOf f = 1) (hce : P.cellsOf e = k) (hC : P.cellsOf t = n * k) (hk : 0 < k)
    (hv : Value.okWide P w r b0 t v) (h : DataW.Trod enc P w base spare held t v d p) : ∃ l : List UInt8, l.length = n * k ∧ v = aggB l := by
  obtain ⟨cs, rfl, hs⟩ := okWide_array ht hv
  obtain ⟨fuel, hf'⟩ := h
  obtain ⟨l, hl⟩ := allb_list (allb_two ht he hf hcf hce hC hk hf')
  have hl' : cs.toList = l.map bval := hl
  refine ⟨l, ?_, ?_⟩
  · have := congrArg List.length hl'
    simp at this
    omega
  · unfold aggB cellsB
    rw [← hl']
end

end Go.Proofs.Ytblgdfamomlklaa
/- A region that draws its order, all of whose operations come to one value each while a condition on the world stands: whatever the order, one end. -/
namespace Go.Proofs.Ytblgdfamomlklaa
open Go.RowKit

section
variable {P : Program} {ops : Array Oper} {Q : Exit → Act → World → Prop} {md : Region.Mode} {S : World → Prop}

/-- what an operation comes to: the value v, in a world of which S holds -/
def OutS (P : Program) (S : World → Prop) (v : Value) : Result Next → Prop
  | .ok (.value u) w' => u = v ∧ S w'
  | .ok .skip w' => v = undef ∧ S w'
  | .ok (.enter f args) w' => Calls P f args w' fun e w'' => e = .returned v ∧ S w''
  | _ => False

def YS (P : Program) (ops : Array Oper) (S : World → Prop) (o : Oper) (v : Value) (a : Act) : Prop :=
  (Region.wanted o (yielded ops a.tmps) = true ∧ ∀ w, S w → OutS P S v ((execOp a.eval o).run P w)) ∨
  (Region.wanted o (yielded ops a.tmps) = false ∧ v = undef)

theorem YS.of {o : Oper} {v : Value} {a a' : Act} (hy : YS P ops S o v a) (he : execOp a'.eval o = execOp a.eval o)
    (hw : Region.wanted o (yielded ops a'.tmps) = Region.wanted o (yielded ops a.tmps)) : YS P ops S o v a' := by
  unfold YS at *; rw [he, hw]; exact hy

theorem YS.op {i : Nat} {o : Oper} {v : Value} {a : Act} (hi : ops[i]? = some o) (hy : YS P ops S o v a) {K : Act → World → Prop} {w : World} (hS : S w)
    (h : ∀ w', S w' → K (a.put o.dst v) w') : wpOp P ops Q i K a w := by
  unfold Go.wpOp
  simp only [hi]
  rcases hy with ⟨hw, hv⟩ | ⟨hw, rfl⟩
  · simp only [hw, if_true]
    refine .inl ?_
    have h1 := hv w hS
    unfold Oper.wp
    generalize (execOp a.eval o).run P w = r at h1 ⊢
    cases r with
    | ok n w' =>
      cases n with
      | value u => obtain ⟨rfl, hs⟩ := h1; exact h _ hs
      | skip => obtain ⟨rfl, hs⟩ := h1; exact h _ hs
      | enter f args =>
        simp only [OutS] at h1
        simp only [Oper.upon]
        refine Calls.mono h1 fun e w'' he => ?_
        obtain ⟨rfl, hs⟩ := he
        exact h _ hs
      | _ => exact h1.elim
    | halt x w' => exact h1.elim
  · simp only [hw, Bool.false_eq_true, if_false]; exact h _ hS

/-- whatever order is picked, from whatever world of which S holds -/
def wpS (P : Program) (md : Region.Mode) (ops : Array Oper) (Q : Exit → Act → World → Prop) (S : World → Prop) : Nat → Array Bool → Act → Prop
  | 0, listed, a => Region.ready md ops listed = [] ∧ ∀ w, S w → Q .normal a w
  | n + 1, listed, a => (Region.ready md ops listed = [] → ∀ w, S w → Q .normal a w) ∧
    ∀ i ∈ Region.ready md ops listed, ∀ w, S w → wpOp P ops Q i (fun a' w' => S w' ∧ wpS P md ops Q S n (listed.setIfInBounds i true) a') a w

theorem wpS_any : ∀ (n : Nat) (listed : Array Bool) (a : Act) (w : World), wpS P md ops Q S n listed a → S w → wpAny P md ops Q n listed a w
  | 0, _, _, w, h, hS => ⟨h.1, h.2 w hS⟩
  | n + 1, _, _, w, h, hS => ⟨fun h0 => h.1 h0 w hS, fun i hi => wpOp_mono (fun a' w' h' => wpS_any n _ a' w' h'.2 h'.1) (h.2 i hi w hS)⟩

theorem wpS_put {j : Nat} {oi oj : Oper} {v : Value} (hj : ops[j]? = some oj) (hap : oi.apart ops oj = true) (hsi : ∀ cs b, oi.op ≠ .select cs b) (hsj : ∀ cs b, oj.op ≠ .select cs b)
    (hQ : ∀ c a w, Q (.panic c) (a.put oi.dst v) w → Q (.panic c) a w) {K : Act → World → Prop} {a : Act} {w : World}
    (hy : YS P ops S oi v a) (h : wpOp P ops Q j K (a.put oi.dst v) w) : wpOp P ops Q j (fun a' w' => YS P ops S oi v a' ∧ K (a'.put oi.dst v) w') a w := by
  obtain ⟨h1, h2, h3⟩ := Oper.apart_spec hap
  have keep : ∀ (a : Act), YS P ops S oi v a → ∀ u, YS P ops S oi v (a.put oj.dst u) := fun a hy u => hy.of (execOp_put oi hsi a oj.dst u h3) (wanted_put oi a oj.dst u h3)
  unfold Go.wpOp at h ⊢
  simp only [hj] at h ⊢
  rw [wanted_put oj a oi.dst v h1] at h
  by_cases hw : Region.wanted oj (yielded ops a.tmps) = true
  · rw [if_pos hw] at h ⊢
    rcases h with h | ⟨hasks, hlets⟩
    · refine .inl ?_
      unfold Oper.wp at h ⊢
      rw [execOp_put oj hsj a oi.dst v h1] at h
      generalize (execOp a.eval oj).run P w = r at h ⊢
      cases r with
      | ok n w' =>
        cases n <;> simp only [Oper.upon] at h ⊢
        case value u => exact ⟨keep a hy u, by rw [← Act.put_comm a v u h2]; exact h⟩
        case skip => exact ⟨keep a hy _, by rw [← Act.put_comm a v undef h2]; exact h⟩
        case defer d =>
          refine ⟨keep { a with defers := d :: a.defers } (hy.of rfl rfl) _, ?_⟩
          rw [← Act.put_comm _ v undef h2, ← Act.put_defers]
          exact h
        case enter f args =>
          refine Calls.mono h fun e w'' he => ?_
          cases e with
          | returned u => exact ⟨keep a hy u, by rw [← Act.put_comm a v u h2]; exact he⟩
          | panicked c => exact hQ _ _ _ he
          | outgrown => exact he
        case row row args => exact Rows.mono h fun u w'' he => ⟨keep a hy u, by rw [← Act.put_comm a v u h2]; exact he⟩
      | halt x w' =>
        cases x <;> simp only [Oper.upon] at h ⊢
        case panic u => exact hQ _ _ _ h
    · exact .inr ⟨by unfold Oper.asks at hasks ⊢; rw [execOp_put oj hsj a oi.dst v h1] at hasks; exact hasks, hlets⟩
  · rw [if_neg hw] at h ⊢
    exact ⟨keep a hy _, by rw [← Act.put_comm a v undef h2]; exact h⟩

theorem wpS_first {i : Nat} {oi : Oper} {v : Value} (hi : ops[i]? = some oi) (hsel : ∀ (j : Nat) (o : Oper) cs b, ops[j]? = some o → o.op ≠ .select cs b)
    (hQ : ∀ c a w, Q (.panic c) (a.put oi.dst v) w → Q (.panic c) a w) : ∀ (n : Nat) (listed : Array Bool) (a : Act),
      (∀ j oj, ops[j]? = some oj → j ≠ i → listed.getD j true = false → (∀ e ∈ oj.after, Region.binds md e = true → e.on ≠ i) → oi.apart ops oj = true) →
      i ∈ Region.ready md ops listed → YS P ops S oi v a → wpS P md ops Q S n (listed.setIfInBounds i true) (a.put oi.dst v) → wpS P md ops Q S (n + 1) listed a := by
  intro n
  induction n with
  | zero =>
    intro listed a _ hr hy H
    refine ⟨fun h => (by rw [h] at hr; cases hr), fun j hj w hS => ?_⟩
    by_cases hji : j = i
    · subst hji; exact hy.op hi hS fun w' hs => ⟨hs, H⟩
    · have := ready_mono hj hji
      rw [H.1] at this
      cases this
  | succ n ih =>
    intro listed a hfree hr hy H
    refine ⟨fun h => (by rw [h] at hr; cases hr), fun j hj w hS => ?_⟩
    by_cases hji : j = i
    · subst hji; exact hy.op hi hS fun w' hs => ⟨hs, H⟩
    · have h1 := H.2 j (ready_mono hj hji) w hS
      obtain ⟨hjun, oj, hoj, hall⟩ := mem_ready.1 hj
      have hnot : ∀ e ∈ oj.after, Region.binds md e = true → e.on ≠ i := by
        intro e he hb heq
        have h1 := hall e he hb
        have h0 := (mem_ready.1 hr).1
        rw [heq] at h1
        rcases Nat.lt_or_ge i listed.size with h' | h'
        · simp [h'] at h0 h1; rw [h0] at h1; cases h1
        · simp [Array.getElem?_eq_none h'] at h1
      have h2 := wpS_put hoj (hfree j oj hoj hji hjun hnot) (fun cs b => hsel i oi cs b hi) (fun cs b => hsel j oj cs b hoj) hQ hy h1
      refine wpOp_mono (fun a' w' h3 => ⟨h3.2.1, ih (listed.setIfInBounds j true) a' (fun k ok hk hki hun hno => ?_) (ready_mono hr (Ne.symm hji)) h3.1 ?_⟩) h2
      · refine hfree k ok hk hki ?_ hno
        by_cases hjk : j = k
        · subst hjk; exact hjun
        · rw [getD_set_ne true hjk] at hun; exact hun
      · rw [Array.setIfInBounds_comm _ _ hji]
        exact h3.2.2

/-- number i first -/
theorem wpS_take (i : Nat) {oi : Oper} {v : Value} {n : Nat} {listed : Array Bool} {a : Act} (hi : ops[i]? = some oi)
    (hs : Region.noSelect ops = true) (hf : Region.free md ops listed i = true) (hr : (Region.ready md ops listed).contains i = true)
    (hQ : ∀ c a w, Q (.panic c) (a.put oi.dst v) w → Q (.panic c) a w) (hy : YS P ops S oi v a)
    (h : wpS P md ops Q S n (listed.setIfInBounds i true) (a.put oi.dst v)) : wpS P md ops Q S (n + 1) listed a :=
  wpS_first hi (Region.noSelect_spec hs) hQ n listed a (Region.free_spec hi hf) (by simpa using hr) hy h
theorem wpS_done {listed : Array Bool} {a : Act} (hr : Region.ready md ops listed = []) (h : ∀ w, S w → Q .normal a w) : ∀ n, wpS P md ops Q S n listed a
  | 0 => ⟨hr, h⟩
  | _ + 1 => ⟨fun _ => h, by rw [hr]; simp⟩
theorem wp_regionS (S : World → Prop) {id : Nat} {a : Act} {w : World} (hm : P.follows .mixedOrders = true) (hS : S w.drew)
    (h : wpS P .any ops Q S ops.size (Array.replicate ops.size false) a) : (Code.region id ops true).wp P Q a w :=
  wp_region_any hm (wpS_any _ _ _ _ h hS)

/-- an operation that looks at no memory, or reads what S tells of -/
theorem YS.val {o : Oper} {v : Value} {a : Act} (hw : Region.wanted o (yielded ops a.tmps) = true) (h : ∀ w, S w → (execOp a.eval o).run P w = .ok (.value v) w) : YS P ops S o v a :=
  .inl ⟨hw, fun w hS => by rw [h w hS]; exact ⟨rfl, hS⟩⟩
/-- a call by its contract -/
theorem YS.call {o : Oper} {v : Value} {a : Act} {f : FuncId} {args : Array Value} (hw : Region.wanted o (yielded ops a.tmps) = true) (h : ∀ w, (execOp a.eval o).run P w = .ok (.enter f args) w)
    (hc : ∀ w, S w → Calls P f args w fun e w' => e = .returned v ∧ S w') : YS P ops S o v a :=
  .inl ⟨hw, fun w hS => by rw [h w]; exact hc w hS⟩
/-- the load of a whole row -/
theorem YS.row {o : Oper} {a : Act} (hw : Region.wanted o (yielded ops a.tmps) = true) (ty : TypeId) (x : Operand) (ho : o.op = .load ty x)
    (b : Nat) (hx : a.eval x = .pointer (some ⟨b, 0, none⟩)) (cs : List Value) (d : TypeDesc) (hS : ∀ w, S w → w.rangeAt b 0 cs)
    (hu : P.underlying ty = some d) (hd : d.isRow = true) (hi : (P.info? ty).map (·.size) = some cs.length) : YS P ops S o (.agg cs.toArray) a := by
  rcases yieldsIf_load_mid (P := P) (ops := ops) hw ty x ho b 0 hx cs d hS hu hd hi with ⟨h1, h2⟩ | ⟨h1, h2⟩
  · exact YS.val h1 h2
  · rw [hw] at h1; cases h1
/-- a call by a contract that says that memory has grown, where S bears growth -/
theorem YS.grow {o : Oper} {v : Value} {a : Act} {f : FuncId} {args : Array Value} (hw : Region.wanted o (yielded ops a.tmps) = true) (h : ∀ w, (execOp a.eval o).run P w = .ok (.enter f args) w)
    (hK : ∀ w w', S w → w.grownBy w' none → S w') (hc : ∀ w, Calls P f args w fun e w' => e = .returned v ∧ w.grownBy w' none) : YS P ops S o v a :=
  YS.call hw h fun w hS => (hc w).mono fun _ w' h => ⟨h.1, hK w w' hS h.2⟩
/-- a call that leaves the world alone -/
theorem YS.same {o : Oper} {v : Value} {a : Act} {f : FuncId} {args : Array Value} (hw : Region.wanted o (yielded ops a.tmps) = true) (h : ∀ w, (execOp a.eval o).run P w = .ok (.enter f args) w)
    (hc : ∀ w, Calls P f args w fun e w' => e = .returned v ∧ w = w') : YS P ops S o v a :=
  YS.call hw h fun w hS => (hc w).mono fun _ _ h => ⟨h.1, h.2 ▸ hS⟩
end

end Go.Proofs.Ytblgdfamomlklaa
/- A region that draws its order and ends in one operation that waits for all the others (a store): whatever the order, one end. -/
namespace Go.Proofs.Ytblgdfamomlklaa
open Go.RowKit

section
variable {P : Program} {ops : Array Oper} {Q : Exit → Act → World → Prop} {md : Region.Mode} {S : World → Prop} {L : Nat}

/-- whatever order is picked, from whatever world of which S holds; number L is the last -/
def wpT (P : Program) (md : Region.Mode) (ops : Array Oper) (Q : Exit → Act → World → Prop) (S : World → Prop) (L : Nat) : Nat → Array Bool → Act → Prop
  | 0, _, _ => False
  | n + 1, listed, a => Region.ready md ops listed ≠ [] ∧
    ∀ i ∈ Region.ready md ops listed, ∀ w, S w → wpOp P ops Q i (fun a' w' => if i = L then Region.ready md ops (listed.setIfInBounds i true) = [] ∧ Q .normal a' w' else S w' ∧ wpT P md ops Q S L n (listed.setIfInBounds i true) a') a w

theorem wpT_any : ∀ (n : Nat) (listed : Array Bool) (a : Act) (w : World), wpT P md ops Q S L n listed a → S w → wpAny P md ops Q n listed a w
  | 0, _, _, _, h, _ => h.elim
  | n + 1, listed, a, w, h, hS => by
    refine ⟨fun h0 => absurd h0 h.1, fun i hi => wpOp_mono (fun a' w' h' => ?_) (h.2 i hi w hS)⟩
    by_cases hL : i = L
    · rw [if_pos hL] at h'
      exact wpAny_done h'.1 h'.2 n
    · rw [if_neg hL] at h'
      exact wpT_any n _ a' w' h'.2 h'.1

/-- what has come up has what it waited for -/
def Closed (md : Region.Mode) (ops : Array Oper) (listed : Array Bool) : Prop := ∀ (j : Nat) (o : Oper), ops[j]? = some o → listed.getD j false = true → ∀ e ∈ o.after, Region.binds md e = true → listed.getD e.on false = true
def closedB (md : Region.Mode) (ops : Array Oper) (listed : Array Bool) : Bool := (List.range ops.size).all fun j => match ops[j]? with
  | some o => !listed.getD j false || o.after.all fun e => !Region.binds md e || listed.getD e.on false
  | none => true
theorem closed_of {listed : Array Bool} (h : closedB md ops listed = true) : Closed md ops listed := by
  intro j o ho hj e he hb
  have h1 := List.all_eq_true.1 h j (List.mem_range.2 (Array.getElem?_eq_some_iff.1 ho).1)
  simp only [ho, hj, Bool.not_true, Bool.false_or] at h1
  have h2 := Array.all_eq_true_iff_forall_mem.1 h1 e he
  simpa [hb] using h2
theorem Closed.set {listed : Array Bool} (h : Closed md ops listed) {j : Nat} (hj : j ∈ Region.ready md ops listed) : Closed md ops (listed.setIfInBounds j true) := by
  intro k o ho hk e he hb
  by_cases hkj : j = k
  · subst hkj
    obtain ⟨_, o', ho', hall⟩ := mem_ready.1 hj
    rw [ho] at ho'
    injection ho' with ho'
    subst ho'
    exact getD_set_true (hall e he hb)
  · rw [getD_set_ne false hkj] at hk
    exact getD_set_true (h k o ho hk e he hb)
/-- does i come ahead of L: directly, or by one between -/
def aheadB (md : Region.Mode) (ops : Array Oper) (oL : Oper) (i : Nat) : Bool := oL.after.any (fun e => Region.binds md e && e.on == i) || oL.after.any (fun e => Region.binds md e && (match ops[e.on]? with
  | some o => o.after.any (fun f => Region.binds md f && f.on == i)
  | none => false))
theorem ahead_listed {listed : Array Bool} {oL : Oper} {i : Nat} (hc : Closed md ops listed) (h : aheadB md ops oL i = true) (hall : ∀ e ∈ oL.after, Region.binds md e = true → listed.getD e.on false = true) : listed.getD i false = true := by
  unfold aheadB at h
  rw [Bool.or_eq_true] at h
  rcases h with h | h
  · obtain ⟨e, he, hb⟩ := Array.any_eq_true'.1 h
    simp only [Bool.and_eq_true, beq_iff_eq] at hb
    rw [← hb.2]
    exact hall e he hb.1
  · obtain ⟨e, he, hb⟩ := Array.any_eq_true'.1 h
    rw [Bool.and_eq_true] at hb
    have h1 := hall e he hb.1
    have h2 := hb.2
    cases ho : ops[e.on]? with
    | none => rw [ho] at h2; cases h2
    | some o =>
      rw [ho] at h2
      obtain ⟨f, hf, hfb⟩ := Array.any_eq_true'.1 h2
      simp only [Bool.and_eq_true, beq_iff_eq] at hfb
      rw [← hfb.2]
      exact hc e.on o ho h1 f hf hfb.1
theorem wpT_first {i : Nat} {oi oL : Oper} {v : Value} (hi : ops[i]? = some oi) (hoL : ops[L]? = some oL) (hiL : i ≠ L) (hLi : aheadB md ops oL i = true) (hsel : ∀ (j : Nat) (o : Oper) cs b, ops[j]? = some o → o.op ≠ .select cs b)
    (hQ : ∀ c a w, Q (.panic c) (a.put oi.dst v) w → Q (.panic c) a w) : ∀ (n : Nat) (listed : Array Bool) (a : Act), Closed md ops listed →
      (∀ j oj, ops[j]? = some oj → j ≠ i → listed.getD j true = false → (∀ e ∈ oj.after, Region.binds md e = true → e.on ≠ i) → oi.apart ops oj = true) →
      i ∈ Region.ready md ops listed → YS P ops S oi v a → wpT P md ops Q S L n (listed.setIfInBounds i true) (a.put oi.dst v) → wpT P md ops Q S L (n + 1) listed a := by
  intro n
  induction n with
  | zero => intro listed a _ _ _ _ H; exact H.elim
  | succ n ih =>
    intro listed a hcl hfree hr hy H
    refine ⟨fun h => (by rw [h] at hr; cases hr), fun j hj w hS => ?_⟩
    obtain ⟨hjun, oj, hoj, hall⟩ := mem_ready.1 hj
    have hnot : ∀ e ∈ oj.after, Region.binds md e = true → e.on ≠ i := by
      intro e he hb heq
      have h1 := hall e he hb
      have h0 := (mem_ready.1 hr).1
      rw [heq] at h1
      rcases Nat.lt_or_ge i listed.size with h' | h'
      · simp [h'] at h0 h1; rw [h0] at h1; cases h1
      · simp [Array.getElem?_eq_none h'] at h1
    by_cases hji : j = i
    · subst hji
      refine hy.op hi hS fun w' hs => ?_
      rw [if_neg hiL]
      exact ⟨hs, H⟩
    · have hjL : j ≠ L := by
        rintro rfl
        rw [hoL] at hoj
        injection hoj with hoj
        subst hoj
        have h1 := ahead_listed hcl hLi hall
        have h0 := (mem_ready.1 hr).1
        rcases Nat.lt_or_ge i listed.size with h' | h'
        · simp [h'] at h0 h1; rw [h0] at h1; cases h1
        · simp [Array.getElem?_eq_none h'] at h1
      have h1 := H.2 j (ready_mono hj hji) w hS
      have h2 := wpS_put hoj (hfree j oj hoj hji hjun hnot) (fun cs b => hsel i oi cs b hi) (fun cs b => hsel j oj cs b hoj) hQ hy h1
      refine wpOp_mono (fun a' w' h3 => ?_) h2
      rw [if_neg hjL] at h3 ⊢
      refine ⟨h3.2.1, ih (listed.setIfInBounds j true) a' (hcl.set hj) (fun k ok hk hki hun hno => ?_) (ready_mono hr (Ne.symm hji)) h3.1 ?_⟩
      · refine hfree k ok hk hki ?_ hno
        by_cases hjk : j = k
        · subst hjk; exact hjun
        · rw [getD_set_ne true hjk] at hun; exact hun
      · rw [Array.setIfInBounds_comm _ _ hji]
        exact h3.2.2

/-- number i first -/
theorem wpT_take (i : Nat) {oi oL : Oper} {v : Value} {n : Nat} {listed : Array Bool} {a : Act} (hi : ops[i]? = some oi) (hoL : ops[L]? = some oL) (hiL : (i == L) = false) (hLi : aheadB md ops oL i = true) (hcl : closedB md ops listed = true)
    (hs : Region.noSelect ops = true) (hf : Region.free md ops listed i = true) (hr : (Region.ready md ops listed).contains i = true)
    (hQ : ∀ c a w, Q (.panic c) (a.put oi.dst v) w → Q (.panic c) a w) (hy : YS P ops S oi v a)
    (h : wpT P md ops Q S L n (listed.setIfInBounds i true) (a.put oi.dst v)) : wpT P md ops Q S L (n + 1) listed a :=
  wpT_first hi hoL (by simpa using hiL) hLi (Region.noSelect_spec hs) hQ n listed a (closed_of hcl) (Region.free_spec hi hf) (by simpa using hr) hy h
/-- the last one, carried out -/
theorem wpT_last {oL : Oper} {n : Nat} {listed : Array Bool} {a : Act} (hoL : ops[L]? = some oL) (hr : Region.ready md ops listed = [L]) (hr2 : Region.ready md ops (listed.setIfInBounds L true) = []) (hw : Region.wanted oL (yielded ops a.tmps) = true)
    (h : ∀ w, S w → ∀ K : Act → World → Prop, (∀ a' w', Q .normal a' w' → K a' w') → oL.wp P a w K Q) : wpT P md ops Q S L (n + 1) listed a := by
  refine ⟨by rw [hr]; simp, fun i hi w hS => ?_⟩
  rw [hr] at hi
  obtain rfl : i = L := by simpa using hi
  unfold wpOp
  simp only [hoL, hw, if_true]
  exact .inl (h w hS _ fun a' w' hq => ⟨hr2, hq⟩)
theorem wp_regionT (S : World → Prop) (L : Nat) {id : Nat} {a : Act} {w : World} (hm : P.follows .mixedOrders = true) (hS : S w.drew)
    (h : wpT P .any ops Q S L ops.size (Array.replicate ops.size false) a) : (Code.region id ops true).wp P Q a w :=
  wp_region_any hm (wpT_any _ _ _ _ h hS)
end

end Go.Proofs.Ytblgdfamomlklaa
/- A fresh variable of several cells that is written whole at once; rows that stand. -/
namespace Go.Proofs.Ytblgdfamomlklaa
open Go.RowKit

/-- block g holds exactly the cells cs of a variable of type t -/
def Row (w : World) (g : Nat) (t : TypeId) (cs : Array Value) : Prop := w.heap[g]? = some (.cells cs t (0, 0))
theorem Row.lt {w : World} {g : Nat} {t : TypeId} {cs : Array Value} (h : Row w g t cs) : g < w.heap.size := (Array.getElem?_eq_some_iff.1 h).1
theorem Row.grown {w w' : World} {g : Nat} {t : TypeId} {cs : Array Value} (h : Row w g t cs) (hg : w.grownBy w' none) : Row w' g t cs :=
  (hg.block g h.lt (by simp)).trans h
theorem Row.grownNe {w w' : World} {g g' : Nat} {t : TypeId} {cs : Array Value} (h : Row w g t cs) (hg : w.grownBy w' (some g')) (hne : g ≠ g') : Row w' g t cs :=
  (hg.block g h.lt (by simpa using hne)).trans h
theorem Row.cell {w : World} {g : Nat} {t : TypeId} {cs : Array Value} (h : Row w g t cs) (k : Nat) : w.cell? ⟨g, k, none⟩ = cs[k]? := by
  unfold Row at h
  simp [World.cell?, h]

theorem Row.setc {w : World} {g : Nat} {t : TypeId} {cs : Array Value} (h : Row w g t cs) (k : Nat) (v : Value) : Row (w.setCell ⟨g, k, none⟩ v) g t (cs.setIfInBounds k v) := by
  unfold Row at h ⊢
  simp only [World.setCell, Array.getElem?_modify, ↓reduceIte, h, Option.map_some]
  simp
theorem Row.frozen {w : World} {g : Nat} {t : TypeId} {cs : Array Value} (h : Row w g t cs) (k : Nat) : w.frozen? ⟨g, k, none⟩ = false := by
  unfold Row at h
  simp [World.frozen?, h]

section
variable {P : Program}

theorem run_alloc_op (w : World) (ev : Operand → Value) {o : Oper} {T : TypeId} (ho : o.op = .alloc T) {i : TypeInfo} (hi : P.info? T = some i) {z : Value} (hz : i.zero = some z) :
    (execOp ev o).run P w = .ok (.value (.pointer (some ⟨w.heap.size, 0, none⟩))) (w.alloc (.cells z.cells T)) := by
  unfold execOp
  simp [ho, Instr.alloc, zeroValue, typeInfo, hi, hz, newVar, newRow]

theorem run_box_op (w : World) (ev : Operand → Value) {o : Oper} {T : TypeId} {x : Operand} (ho : o.op = .box T x) :
    (execOp ev o).run P w = .ok (.value (.pointer (some ⟨w.heap.size, 0, none⟩))) (w.alloc (.cells (ev x).cells T)) := by
  unfold execOp
  simp [ho, Instr.box, newVar, newRow]

theorem wpList_fresh {ops : Array Oper} {rest : List Oper} {o1 o2 : Oper} {a : Act} {w : World} {Q : Exit → Act → World → Prop} (hg1 : o1.guard = none) (hg2 : o2.guard = none) {T : TypeId} {d : Tmp} {x : Operand}
    (ho1 : o1.op = .alloc T) (hd : o1.dst = some d) (ho2 : o2.op = .store T (.tmp d) x) {i : TypeInfo} (hi : P.info? T = some i) {z : Value} (hz : i.zero = some z) (hsz : i.size = z.cells.size)
    (cs : Array Value) (hp : (a.put (some d) (.pointer (some ⟨w.heap.size, 0, none⟩))).eval (.tmp d) = .pointer (some ⟨w.heap.size, 0, none⟩)) (hx : (a.put (some d) (.pointer (some ⟨w.heap.size, 0, none⟩))).eval x = .agg cs)
    (hcs : z.cells.size = cs.size) (h1 : cs.all (·.oneCell') = true)
    (h : ∀ W, W.heap.size = w.heap.size + 1 → w.grownBy W none → Row W w.heap.size T cs → wpList P ops Q rest ((a.put (some d) (.pointer (some ⟨w.heap.size, 0, none⟩))).put o2.dst undef) W) :
    wpList P ops Q (o1 :: o2 :: rest) a w := by
  refine wpList_plain hg1 fun K hK => ?_
  unfold Oper.wp
  rw [run_alloc_op w a.eval ho1 hi hz, Oper.upon_value]
  refine hK _ _ ?_
  rw [hd]
  have hrow : (w.alloc (.cells z.cells T)).heap[w.heap.size]? = some (.cells z.cells T (0, 0)) := heap_alloc_new w _
  refine wpList_store_row hg2 T (.tmp d) x ho2 w.heap.size cs hp hx T z.cells hrow (by rw [hi]; simp [hsz, hcs]) hcs h1 ?_
  refine h _ (by simp) ?_ (setRow_heap _ _ _ _ _ _ hrow)
  exact grownBy_old (World.grownBy_alloc w (.cells z.cells T) none) (grownBy_setRow _ w.heap.size cs) (Nat.le_refl _)

theorem wpList_made {ops : Array Oper} {rest : List Oper} {o1 : Oper} {a : Act} {w : World} {Q : Exit → Act → World → Prop} (hg1 : o1.guard = none) {T : TypeId} (ho1 : o1.op = .alloc T) {i : TypeInfo} (hi : P.info? T = some i) {z : Value} (hz : i.zero = some z)
    (h : ∀ W, W.heap.size = w.heap.size + 1 → w.grownBy W none → Row W w.heap.size T z.cells → wpList P ops Q rest (a.put o1.dst (.pointer (some ⟨w.heap.size, 0, none⟩))) W) : wpList P ops Q (o1 :: rest) a w := by
  refine wpList_plain hg1 fun K hK => ?_
  unfold Oper.wp
  rw [run_alloc_op w a.eval ho1 hi hz, Oper.upon_value]
  exact hK _ _ (h _ (by simp) (World.grownBy_alloc w (.cells z.cells T) none) (heap_alloc_new w _))

theorem wpList_putrow {ops : Array Oper} {rest : List Oper} {o : Oper} {a : Act} {w : World} {Q : Exit → Act → World → Prop} (hg : o.guard = none) {T : TypeId} {x y : Operand} (ho : o.op = .store T x y)
    (g : Nat) (hx : a.eval x = .pointer (some ⟨g, 0, none⟩)) (cs : Array Value) (hy : a.eval y = .agg cs) {old : Array Value} (hr : Row w g T old) (hi : (P.info? T).map (·.size) = some cs.size) (hold : old.size = cs.size) (h1 : cs.all (·.oneCell') = true)
    (h : ∀ W, w.grownBy W (some g) → Row W g T cs → wpList P ops Q rest (a.put o.dst undef) W) : wpList P ops Q (o :: rest) a w :=
  wpList_store_row hg T x y ho g cs hx hy T old hr hi hold h1 (h _ (grownBy_setRow _ _ _) (setRow_heap _ _ _ _ _ _ hr))

theorem wpList_boxed {ops : Array Oper} {rest : List Oper} {o : Oper} {a : Act} {w : World} {Q : Exit → Act → World → Prop} (hg : o.guard = none) {T : TypeId} {x : Operand} (ho : o.op = .box T x)
    (cs : Array Value) (hx : a.eval x = .agg cs)
    (h : ∀ W, W.heap.size = w.heap.size + 1 → w.grownBy W none → Row W w.heap.size T cs → wpList P ops Q rest (a.put o.dst (.pointer (some ⟨w.heap.size, 0, none⟩))) W) :
    wpList P ops Q (o :: rest) a w := by
  refine wpList_plain hg fun K hK => ?_
  unfold Oper.wp
  rw [run_box_op w a.eval ho, Oper.upon_value, hx]
  refine hK _ _ ?_
  exact h _ (by simp) (World.grownBy_alloc w (.cells cs T) none) (heap_alloc_new w (.cells cs T))

end

section
variable {P : Program}
theorem run_load_op (w : World) (ev : Operand → Value) {o : Oper} (ty : TypeId) (x : Operand) (ho : o.op = .load ty x) (g : Nat) (hx : ev x = .pointer (some ⟨g, 0, none⟩)) (t : TypeId) (cs : Array Value) {d : TypeDesc} (hg : Row w g t cs)
    (hu : P.underlying ty = some d) (hd : (match d with | .struct _ | .array _ _ => true | _ => false) = true) (hi : (P.info? ty).map (·.size) = some cs.size) : (execOp ev o).run P w = .ok (.value (.agg cs)) w := by
  unfold execOp
  simp only [ho, hx, Instr.loadAt, Instr.sureAddr, Sem.run_bind, Sem.run_pure, Result.andThen_ok, run_loadVar_row w g t ty cs (0, 0) d hg hu hd hi]
theorem run_eql_op (w : World) (ev : Operand → Value) {o : Oper} {t ty : TypeId} (hgu : P.eqGuardType P.depth t = false) {x y : Operand} (ho : o.op = .binOp .eql t x y ty) (xs ys : Array Value) (hx : ev x = .agg xs) (hy : ev y = .agg ys) {v : Value} (h : (binOp .eql t (.agg xs) (.agg ys)).run P w = .ok v w) : (execOp ev o).run P w = .ok (.value v) w := by
  unfold execOp
  simp [ho, hx, hy, run_eqGuard_agg w .eql t x y xs ys hgu, h]
end

end Go.Proofs.Ytblgdfamomlklaa
/- An array by value: its i-th element; and by address. -/
namespace Go.Proofs.Ytblgdfamomlklaa
open Go.RowKit

theorem run_index_arr {P : Program} {t e : TypeId} {n : Nat} {kk : IntKind} (h : P.underlying t = some (.array n e)) (he : P.underlying e = some (.int kk)) (hsz : (P.info? e).map (·.size) = some 1)
    (cs : Array Value) (k : IntKind) (i : Nat) (v : Value) (hi : i < n) (hv : cs[i]? = some v) (w : World) : (Instr.index t (.agg cs) (.int k (i : Int))).run P w = .ok v w := by
  cases hq : P.info? e with
  | none => simp [hq] at hsz
  | some x =>
    have hx : x.size = 1 := by simp [hq] at hsz; exact hsz
    have hni : ¬ n ≤ i := by omega
    simp [Instr.index, run_underlying h, asIntOf, sizeOf, typeInfo, hq, hx, part, isAgg, run_underlying he, hv, hni, Result.andThen]

end Go.Proofs.Ytblgdfamomlklaa
/- Blocks of bytes in memory: one block, its cells told by a list. -/
namespace Go.Proofs.Ytblgdfamomlklaa
open Go.RowKit

theorem size_state : (Try.prog.info? 95).map (·.size) = some 16 := by kernel_rfl
theorem size_block : (Try.prog.info? 24).map (·.size) = some 16 := by kernel_rfl

theorem cellsB_size (l : List UInt8) : (cellsB l).size = l.length := by simp [cellsB]
theorem cellsB_one (l : List UInt8) : (cellsB l).all (·.oneCell') = true := by simp [cellsB, bval, Value.oneCell']
theorem cellsB_get (l : List UInt8) (j : Nat) (h : j < l.length) : (cellsB l)[j]? = some (.int .u8 (((l.getD j 0)).toNat : Int)) := by simp [cellsB, h, bval]
theorem cellsB_set (l : List UInt8) (j : Nat) (x : UInt8) : (cellsB l).setIfInBounds j (.int .u8 (x.toNat : Int)) = cellsB (l.set j x) := by
  unfold cellsB
  rw [List.map_set, ← List.setIfInBounds_toArray]
  rfl

/-- the block g holds these bytes, and nothing else -/
def Blk (w : World) (g : Nat) (t : TypeId) (l : List UInt8) : Prop := w.heap[g]? = some (.cells (cellsB l) t (0, 0))
section
variable {w w' : World} {g : Nat} {t : TypeId} {l : List UInt8}
theorem Blk.lt (h : Blk w g t l) : g < w.heap.size := (Array.getElem?_eq_some_iff.1 h).1
theorem Blk.cell (h : Blk w g t l) (n : Nat) (hn : l.length = n) : ∀ j, j < n → w.cell? ⟨g, j, none⟩ = some (.int .u8 ((l.getD j 0).toNat : Int)) := by
  intro j hj
  have h' : w.heap[g]? = some (.cells (cellsB l) t (0, 0)) := h
  simp only [World.cell?, h']
  exact cellsB_get l j (by omega)
theorem Blk.free (h : Blk w g t l) : ∀ j, w.frozen? ⟨g, j, none⟩ = false := by
  intro j
  have h' : w.heap[g]? = some (.cells (cellsB l) t (0, 0)) := h
  simp [World.frozen?, h']
theorem Blk.set (h : Blk w g t l) (j : Nat) (x : UInt8) : Blk (w.setCell ⟨g, j, none⟩ (.int .u8 (x.toNat : Int))) g t (l.set j x) := by
  have h' : w.heap[g]? = some (.cells (cellsB l) t (0, 0)) := h
  unfold Blk
  simp only [World.setCell, Array.getElem?_modify, ↓reduceIte, h', Option.map_some]
  simp [cellsB_set]
theorem Blk.other (h : Blk w g t l) {g' j : Nat} {v : Value} (hne : g ≠ g') : Blk (w.setCell ⟨g', j, none⟩ v) g t l := (Below.heap_setCell _ _ _ _ hne).trans h
theorem Blk.grown (h : Blk w g t l) {r : Option Nat} (hg : w.grownBy w' r) (hne : r ≠ some g) : Blk w' g t l := (hg.block g h.lt (by simpa using fun e => hne e.symm)).trans h
theorem Blk.new (w : World) (t : TypeId) (l : List UInt8) : Blk (w.alloc (.cells (cellsB l) t)) w.heap.size t l := heap_alloc_new w _
theorem Blk.dr (h : Blk w g t l) : Blk w.drew g t l := h
theorem Blk.drewN (h : Blk w g t l) (n : Nat) : Blk (w.drewN n) g t l := h
end
theorem grownBy_d1 {a b : World} {r : Option Nat} (h : a.grownBy b r) : a.grownBy b.drew r := ⟨h.os, h.tape, h.output, h.size, h.block⟩
def z16 : List UInt8 := [0, 0, 0, 0, 0, 0, 0, 0, 0, 0, 0, 0, 0, 0, 0, 0]
/-- three blocks, made in a row -/
theorem three (w : World) (c1 c2 c3 : List UInt8) (t1 t2 t3 : TypeId) :
    Blk (((w.alloc (.cells (cellsB c1) t1)).alloc (.cells (cellsB c2) t2)).alloc (.cells (cellsB c3) t3)) w.heap.size t1 c1 ∧ Blk (((w.alloc (.cells (cellsB c1) t1)).alloc (.cells (cellsB c2) t2)).alloc (.cells (cellsB c3) t3)) (w.heap.size + 1) t2 c2 ∧
    Blk (((w.alloc (.cells (cellsB c1) t1)).alloc (.cells (cellsB c2) t2)).alloc (.cells (cellsB c3) t3)) (w.heap.size + 1 + 1) t3 c3 ∧ w.grownBy (((w.alloc (.cells (cellsB c1) t1)).alloc (.cells (cellsB c2) t2)).alloc (.cells (cellsB c3) t3)) none := by
  have h1 := Blk.new w t1 c1
  have h2 := Blk.new (w.alloc (.cells (cellsB c1) t1)) t2 c2
  have h3 := Blk.new ((w.alloc (.cells (cellsB c1) t1)).alloc (.cells (cellsB c2) t2)) t3 c3
  have g1 := World.grownBy_alloc w (.cells (cellsB c1) t1) none
  have g2 := World.grownBy_alloc (w.alloc (.cells (cellsB c1) t1)) (.cells (cellsB c2) t2) none
  have g3 := World.grownBy_alloc ((w.alloc (.cells (cellsB c1) t1)).alloc (.cells (cellsB c2) t2)) (.cells (cellsB c3) t3) none
  rw [World.size_alloc] at h2 h3
  rw [World.size_alloc] at h3
  exact ⟨(h1.grown g2 (by simp)).grown g3 (by simp), h2.grown g3 (by simp), h3, grownBy_trans (grownBy_trans g1 g2) g3⟩
theorem two (w : World) (c1 c2 : List UInt8) (t1 t2 : TypeId) :
    Blk ((w.alloc (.cells (cellsB c1) t1)).alloc (.cells (cellsB c2) t2)) w.heap.size t1 c1 ∧ Blk ((w.alloc (.cells (cellsB c1) t1)).alloc (.cells (cellsB c2) t2)) (w.heap.size + 1) t2 c2 ∧ w.grownBy ((w.alloc (.cells (cellsB c1) t1)).alloc (.cells (cellsB c2) t2)) none := by
  have h1 := Blk.new w t1 c1
  have h2 := Blk.new (w.alloc (.cells (cellsB c1) t1)) t2 c2
  have g1 := World.grownBy_alloc w (.cells (cellsB c1) t1) none
  have g2 := World.grownBy_alloc (w.alloc (.cells (cellsB c1) t1)) (.cells (cellsB c2) t2) none
  rw [World.size_alloc] at h2
  exact ⟨h1.grown g2 (by simp), h2, grownBy_trans g1 g2⟩

theorem i64_nat (n : Nat) (h : n ≤ 4611686018427387904) : IntKind.i64.wrap (n : Int) = (n : Int) := IntWalk.i64_in _ (by omega)

/-- so many rounds of a change -/
def iterU (f : Nat → List UInt8 → List UInt8) (o : List UInt8) : Nat → List UInt8
  | 0 => o
  | k + 1 => f k (iterU f o k)
theorem iterU_len {f : Nat → List UInt8 → List UInt8} {o : List UInt8} (hf : ∀ k l, (f k l).length = l.length) : ∀ k, (iterU f o k).length = o.length
  | 0 => rfl
  | k + 1 => (hf k _).trans (iterU_len hf k)

end Go.Proofs.Ytblgdfamomlklaa
/- aes: Spread, Gather; the document's. -/
namespace Go.Proofs.Ytblgdfamomlklaa
open Go.RowKit

/-- the spreading, step by step -/
def spF (l : List UInt8) (k : Nat) (o : List UInt8) : List UInt8 := o.set (k % 4 * 4 + k / 4) (l.getD k 0)
theorem spF_len (l : List UInt8) : ∀ k o, (spF l k o).length = o.length := fun k o => by simp [spF]
theorem sp_end {l : List UInt8} (hl : l.length = 16) : iterU (spF l) z16 16 = trL l := by
  obtain ⟨x0, x1, x2, x3, x4, x5, x6, x7, x8, x9, x10, x11, x12, x13, x14, x15, rfl⟩ := ex16 hl
  rfl

set_option maxRecDepth 100000 in
set_option maxHeartbeats 1000000 in
theorem spread_n (l : List UInt8) (hl : l.length = 16) (w : World) : Calls Try.prog 56 #[aggB l] w fun e w' => e = .returned (aggB (trL l)) ∧ w.grownBy w' none := by
  unfold aggB
  have hidx : ∀ (j : Nat) (w : World), j < 16 → (Instr.index 24 (.agg (cellsB l)) (.int .i64 (j : Int))).run Try.prog w = .ok (.int .u8 ((l.getD j 0).toNat : Int)) w :=
    fun j w hj => run_index_arr (k := .i64) Try.underlying24 Try.underlying5 (by kernel_rfl) _ _ _ hj (cellsB_get l j (by omega)) w
  obtain ⟨hb, hr, hs, hg⟩ := three w l z16 z16 24 95 95
  have HR := Lib.hid hr
  have HS := Lib.hid hs
  have HG := Lib.hid hg
  have HB := Lib.hid hb
  clear hr hg hs hb
  go_enter Try.func56, Try.ntmps56
  go_wp2_with (refine wpList_load_row rfl 24 _ rfl w.heap.size rfl 24 (cellsB l) (0, 0) _ HB.out Try.underlying24 rfl (by rw [size_block, cellsB_size, hl]) ?_)
  go_loopw [7] (fun vi wr => ∃ k : Nat, k ≤ 16 ∧ vi = .int .i64 k ∧ Blk wr (w.heap.size + 1) 95 z16 ∧ Blk wr (w.heap.size + 1 + 1) 95 (iterU (spF l) z16 k) ∧ w.grownBy wr none) (fun vi _ => 16 - (intOf vi).toNat)
  case atStart => exact ⟨0, by omega, rfl, HR.out, HS.out, HG.out⟩
  case round =>
    obtain ⟨k, hk, rfl, hr, hs, hg⟩ := hrel
    have HRR := Lib.hid hr
    have HGG := Lib.hid hg
    have hlen : (iterU (spF l) z16 k).length = 16 := iterU_len (spF_len l) k
    have hcell := hs.cell 16 hlen
    have hfree := hs.free
    have HSS := Lib.hid hs
    clear hr hg hs hlen
    by_cases hlt : k < 16
    · have hi := fun w => hidx k w hlt
      have hj : k % 4 * 4 + k / 4 < 16 := by omega
      have hcj := hcell _ hj
      obtain ⟨u0, hu0⟩ : ∃ u0, wr.cell? ⟨w.heap.size + 1 + 1, k % 4 * 4 + k / 4, none⟩ = some u0 := ⟨_, hcj⟩
      have hset := HSS.out.set (k % 4 * 4 + k / 4) (l.getD k 0)
      have he : iterU (spF l) z16 (k + 1) = (iterU (spF l) z16 k).set (k % 4 * 4 + k / 4) (l.getD k 0) := rfl
      obtain ⟨x, hx⟩ : ∃ x, x = l.getD k 0 := ⟨_, rfl⟩
      rw [← hx] at hset hi he
      rw [← he] at hset
      have HSET := Lib.hid hset
      clear hset HSS hcell hcj hidx hj hx he
      go_wp2_with fail
      go_roundw
      case rel => exact ⟨k + 1, by omega, by go_num, HRR.out.other (by omega), HSET.out, grownBy_old HGG.out (grownBy_setCell _ _ _ _) (by omega)⟩
      case measure => simp [intOf]; omega
    · obtain rfl : k = 16 := by omega
      clear hcell hfree hidx
      have hs := HSS.out
      rw [sp_end hl] at hs
      have HS2 := Lib.hid hs
      clear hs HSS
      go_wp2_with (first | (refine wpList_load_row rfl 95 _ rfl (w.heap.size + 1 + 1) rfl 95 (cellsB (trL l)) (0, 0) _ HS2.out Try.underlying95 rfl (by rw [size_state, cellsB_size, trL_len hl]) ?_) | (refine wpList_store_row rfl 95 _ _ rfl (w.heap.size + 1) (cellsB (trL l)) rfl rfl 95 _ HRR.out (by rw [size_state, cellsB_size, trL_len hl]) (by rw [cellsB_size, cellsB_size, trL_len hl]; rfl) (cellsB_one _) ?_))
      refine bodyPost_ret (v := .agg (cellsB (trL l))) (results_cell_row rfl _ _ (w.heap.size + 1) 95 (cellsB (trL l)) (0, 0) _ rfl (setRow_heap _ _ _ _ _ _ HRR.out) Try.underlying95 rfl (by rw [size_state, cellsB_size, trL_len hl])) rfl ⟨rfl, ?_⟩
      exact grownBy_old HGG.out (grownBy_setRow _ _ _) (by omega)

-- GATHER
def gaF (l : List UInt8) (k : Nat) (o : List UInt8) : List UInt8 := o.set k (l.getD (k % 4 * 4 + k / 4) 0)
theorem gaF_len (l : List UInt8) : ∀ k o, (gaF l k o).length = o.length := fun k o => by simp [gaF]
theorem ga_end {l : List UInt8} (hl : l.length = 16) : iterU (gaF l) z16 16 = trL l := by
  obtain ⟨x0, x1, x2, x3, x4, x5, x6, x7, x8, x9, x10, x11, x12, x13, x14, x15, rfl⟩ := ex16 hl
  rfl

set_option maxRecDepth 100000 in
set_option maxHeartbeats 1000000 in
theorem gather_n (l : List UInt8) (hl : l.length = 16) (w : World) : Calls Try.prog 59 #[aggB l] w fun e w' => e = .returned (aggB (trL l)) ∧ w.grownBy w' none := by
  unfold aggB
  obtain ⟨hb, hr, hs, hg⟩ := three w l z16 z16 95 24 24
  have HR := Lib.hid hr
  have HS := Lib.hid hs
  have HG := Lib.hid hg
  have HB := Lib.hid hb
  clear hr hg hs hb
  go_enter Try.func59, Try.ntmps59
  go_wp2_with fail
  go_loopw [5] (fun vi wr => ∃ k : Nat, k ≤ 16 ∧ vi = .int .i64 k ∧ Blk wr w.heap.size 95 l ∧ Blk wr (w.heap.size + 1) 24 z16 ∧ Blk wr (w.heap.size + 1 + 1) 24 (iterU (gaF l) z16 k) ∧ w.grownBy wr none) (fun vi _ => 16 - (intOf vi).toNat)
  case atStart => exact ⟨0, by omega, rfl, HB.out, HR.out, HS.out, HG.out⟩
  case round =>
    obtain ⟨k, hk, rfl, hb, hr, hs, hg⟩ := hrel
    have HBB := Lib.hid hb
    have HRR := Lib.hid hr
    have HGG := Lib.hid hg
    have hlen : (iterU (gaF l) z16 k).length = 16 := iterU_len (gaF_len l) k
    have hcell := hs.cell 16 hlen
    have hfree := hs.free
    have HSS := Lib.hid hs
    clear hr hg hs hlen hb
    by_cases hlt : k < 16
    · have hci := HBB.out.cell 16 hl (k % 4 * 4 + k / 4) (by omega)
      have hj : k < 16 := by omega
      have hcj := hcell _ hj
      obtain ⟨u0, hu0⟩ : ∃ u0, wr.cell? ⟨w.heap.size + 1 + 1, k, none⟩ = some u0 := ⟨_, hcj⟩
      have hset := HSS.out.set (k) (l.getD (k % 4 * 4 + k / 4) 0)
      have he : iterU (gaF l) z16 (k + 1) = (iterU (gaF l) z16 k).set (k) (l.getD (k % 4 * 4 + k / 4) 0) := rfl
      obtain ⟨x, hx⟩ : ∃ x, x = l.getD (k % 4 * 4 + k / 4) 0 := ⟨_, rfl⟩
      rw [← hx] at hset hci he
      rw [← he] at hset
      have HSET := Lib.hid hset
      clear hset HSS hcell hcj hj hx he
      go_wp2_with fail
      go_roundw
      case rel => exact ⟨k + 1, by omega, by go_num, HBB.out.other (by omega), HRR.out.other (by omega), HSET.out, grownBy_old HGG.out (grownBy_setCell _ _ _ _) (by omega)⟩
      case measure => simp [intOf]; omega
    · obtain rfl : k = 16 := by omega
      clear hcell hfree
      have hs := HSS.out
      rw [ga_end hl] at hs
      have HS2 := Lib.hid hs
      clear hs HSS
      go_wp2_with (first | (refine wpList_load_row rfl 24 _ rfl (w.heap.size + 1 + 1) rfl 24 (cellsB (trL l)) (0, 0) _ HS2.out Try.underlying24 rfl (by rw [size_block, cellsB_size, trL_len hl]) ?_) | (refine wpList_store_row rfl 24 _ _ rfl (w.heap.size + 1) (cellsB (trL l)) rfl rfl 24 _ HRR.out (by rw [size_block, cellsB_size, trL_len hl]) (by rw [cellsB_size, cellsB_size, trL_len hl]; rfl) (cellsB_one _) ?_))
      refine bodyPost_ret (v := .agg (cellsB (trL l))) (results_cell_row rfl _ _ (w.heap.size + 1) 24 (cellsB (trL l)) (0, 0) _ rfl (setRow_heap _ _ _ _ _ _ HRR.out) Try.underlying24 rfl (by rw [size_block, cellsB_size, trL_len hl])) rfl ⟨rfl, ?_⟩
      exact grownBy_old HGG.out (grownBy_setRow _ _ _) (by omega)

set_option maxRecDepth 100000 in
set_option maxHeartbeats 1000000 in
theorem refSpread_n (l : List UInt8) (hl : l.length = 16) (w : World) : Calls Try.prog 63 #[aggB l] w fun e w' => e = .returned (aggB (trL l)) ∧ w.grownBy w' none := by
  unfold aggB
  obtain ⟨hb, hr, hs, hg⟩ := three w l z16 z16 24 95 95
  have HR := Lib.hid hr
  have HS := Lib.hid hs
  have HG := Lib.hid hg
  have HB := Lib.hid hb
  clear hr hg hs hb
  go_enter Try.func63, Try.ntmps63
  go_wp2_with fail
  go_loopw [4] (fun vi wr => ∃ k : Nat, k ≤ 16 ∧ vi = .int .i64 k ∧ Blk wr w.heap.size 24 l ∧ Blk wr (w.heap.size + 1) 95 z16 ∧ Blk wr (w.heap.size + 1 + 1) 95 (iterU (spF l) z16 k) ∧ w.grownBy wr none) (fun vi _ => 16 - (intOf vi).toNat)
  case atStart => exact ⟨0, by omega, rfl, HB.out, HR.out, HS.out, HG.out⟩
  case round =>
    obtain ⟨k, hk, rfl, hb, hr, hs, hg⟩ := hrel
    have HBB := Lib.hid hb
    have HRR := Lib.hid hr
    have HGG := Lib.hid hg
    have hlen : (iterU (spF l) z16 k).length = 16 := iterU_len (spF_len l) k
    have hcell := hs.cell 16 hlen
    have hfree := hs.free
    have HSS := Lib.hid hs
    clear hr hg hs hlen hb
    by_cases hlt : k < 16
    · have hci := HBB.out.cell 16 hl (k) (by omega)
      have hj : k % 4 * 4 + k / 4 < 16 := by omega
      have hcj := hcell _ hj
      obtain ⟨u0, hu0⟩ : ∃ u0, wr.cell? ⟨w.heap.size + 1 + 1, k % 4 * 4 + k / 4, none⟩ = some u0 := ⟨_, hcj⟩
      have hset := HSS.out.set (k % 4 * 4 + k / 4) (l.getD (k) 0)
      have he : iterU (spF l) z16 (k + 1) = (iterU (spF l) z16 k).set (k % 4 * 4 + k / 4) (l.getD (k) 0) := rfl
      obtain ⟨x, hx⟩ : ∃ x, x = l.getD (k) 0 := ⟨_, rfl⟩
      rw [← hx] at hset hci he
      rw [← he] at hset
      have HSET := Lib.hid hset
      clear hset HSS hcell hcj hj hx he
      go_wp2_with fail
      go_region
      go_wp2
      go_roundw
      case rel => exact ⟨k + 1, by omega, by go_num, (HBB.out.other (by omega)).dr, (HRR.out.other (by omega)).dr, HSET.out.dr, grownBy_d1 (grownBy_old HGG.out (grownBy_setCell _ _ _ _) (by omega))⟩
      case measure => simp [intOf]; omega
    · obtain rfl : k = 16 := by omega
      clear hcell hfree
      have hs := HSS.out
      rw [sp_end hl] at hs
      have HS2 := Lib.hid hs
      clear hs HSS
      go_wp2_with (first | (refine wpList_load_row rfl 95 _ rfl (w.heap.size + 1 + 1) rfl 95 (cellsB (trL l)) (0, 0) _ HS2.out Try.underlying95 rfl (by rw [size_state, cellsB_size, trL_len hl]) ?_) | (refine wpList_store_row rfl 95 _ _ rfl (w.heap.size + 1) (cellsB (trL l)) rfl rfl 95 _ HRR.out (by rw [size_state, cellsB_size, trL_len hl]) (by rw [cellsB_size, cellsB_size, trL_len hl]; rfl) (cellsB_one _) ?_))
      refine bodyPost_ret (v := .agg (cellsB (trL l))) (results_cell_row rfl _ _ (w.heap.size + 1) 95 (cellsB (trL l)) (0, 0) _ rfl (setRow_heap _ _ _ _ _ _ HRR.out) Try.underlying95 rfl (by rw [size_state, cellsB_size, trL_len hl])) rfl ⟨rfl, ?_⟩
      exact grownBy_old HGG.out (grownBy_setRow _ _ _) (by omega)

set_option maxRecDepth 100000 in
set_option maxHeartbeats 1000000 in
theorem refGather_n (l : List UInt8) (hl : l.length = 16) (w : World) : Calls Try.prog 66 #[aggB l] w fun e w' => e = .returned (aggB (trL l)) ∧ w.grownBy w' none := by
  unfold aggB
  obtain ⟨hb, hr, hs, hg⟩ := three w l z16 z16 95 24 24
  have HR := Lib.hid hr
  have HS := Lib.hid hs
  have HG := Lib.hid hg
  have HB := Lib.hid hb
  clear hr hg hs hb
  go_enter Try.func66, Try.ntmps66
  go_wp2_with fail
  go_loopw [4] (fun vi wr => ∃ k : Nat, k ≤ 16 ∧ vi = .int .i64 k ∧ Blk wr w.heap.size 95 l ∧ Blk wr (w.heap.size + 1) 24 z16 ∧ Blk wr (w.heap.size + 1 + 1) 24 (iterU (gaF l) z16 k) ∧ w.grownBy wr none) (fun vi _ => 16 - (intOf vi).toNat)
  case atStart => exact ⟨0, by omega, rfl, HB.out, HR.out, HS.out, HG.out⟩
  case round =>
    obtain ⟨k, hk, rfl, hb, hr, hs, hg⟩ := hrel
    have HBB := Lib.hid hb
    have HRR := Lib.hid hr
    have HGG := Lib.hid hg
    have hlen : (iterU (gaF l) z16 k).length = 16 := iterU_len (gaF_len l) k
    have hcell := hs.cell 16 hlen
    have hfree := hs.free
    have HSS := Lib.hid hs
    clear hr hg hs hlen hb
    by_cases hlt : k < 16
    · have hci := HBB.out.cell 16 hl (k % 4 * 4 + k / 4) (by omega)
      have hj : k < 16 := by omega
      have hcj := hcell _ hj
      obtain ⟨u0, hu0⟩ : ∃ u0, wr.cell? ⟨w.heap.size + 1 + 1, k, none⟩ = some u0 := ⟨_, hcj⟩
      have hset := HSS.out.set (k) (l.getD (k % 4 * 4 + k / 4) 0)
      have he : iterU (gaF l) z16 (k + 1) = (iterU (gaF l) z16 k).set (k) (l.getD (k % 4 * 4 + k / 4) 0) := rfl
      obtain ⟨x, hx⟩ : ∃ x, x = l.getD (k % 4 * 4 + k / 4) 0 := ⟨_, rfl⟩
      rw [← hx] at hset hci he
      rw [← he] at hset
      have HSET := Lib.hid hset
      clear hset HSS hcell hcj hj hx he
      go_wp2_with fail
      go_roundw
      case rel => exact ⟨k + 1, by omega, by go_num, HBB.out.other (by omega), HRR.out.other (by omega), HSET.out, grownBy_old HGG.out (grownBy_setCell _ _ _ _) (by omega)⟩
      case measure => simp [intOf]; omega
    · obtain rfl : k = 16 := by omega
      clear hcell hfree
      have hs := HSS.out
      rw [ga_end hl] at hs
      have HS2 := Lib.hid hs
      clear hs HSS
      go_wp2_with (first | (refine wpList_load_row rfl 24 _ rfl (w.heap.size + 1 + 1) rfl 24 (cellsB (trL l)) (0, 0) _ HS2.out Try.underlying24 rfl (by rw [size_block, cellsB_size, trL_len hl]) ?_) | (refine wpList_store_row rfl 24 _ _ rfl (w.heap.size + 1) (cellsB (trL l)) rfl rfl 24 _ HRR.out (by rw [size_block, cellsB_size, trL_len hl]) (by rw [cellsB_size, cellsB_size, trL_len hl]; rfl) (cellsB_one _) ?_))
      refine bodyPost_ret (v := .agg (cellsB (trL l))) (results_cell_row rfl _ _ (w.heap.size + 1) 24 (cellsB (trL l)) (0, 0) _ rfl (setRow_heap _ _ _ _ _ _ HRR.out) Try.underlying24 rfl (by rw [size_block, cellsB_size, trL_len hl])) rfl ⟨rfl, ?_⟩
      exact grownBy_old HGG.out (grownBy_setRow _ _ _) (by omega)

end Go.Proofs.Ytblgdfamomlklaa
/- aes: shifted, Shift, Unshift; the document's. -/
namespace Go.Proofs.Ytblgdfamomlklaa
open Go.RowKit

/-- two loops, one in the other -/
def iter2 (F : Nat → Nat → List UInt8 → List UInt8) (o : List UInt8) (r : Nat) : List UInt8 := iterU (fun r o => iterU (F r) o 4) o r
theorem iter2_len {F : Nat → Nat → List UInt8 → List UInt8} {o : List UInt8} (hF : ∀ r c l, (F r c l).length = l.length) (r : Nat) : (iter2 F o r).length = o.length :=
  iterU_len (fun r l => iterU_len (hF r) 4) r

def shF (b : Nat) (l : List UInt8) (r c : Nat) (o : List UInt8) : List UInt8 := o.set (r * 4 + c) (l.getD (r * 4 + (c + b * r) % 4) 0)
theorem shF_len (b : Nat) (l : List UInt8) : ∀ r c o, (shF b l r c o).length = o.length := fun r c o => by simp [shF]
theorem sh1_end {l : List UInt8} (hl : l.length = 16) : iter2 (shF 1 l) z16 4 = shL l := by
  obtain ⟨x0, x1, x2, x3, x4, x5, x6, x7, x8, x9, x10, x11, x12, x13, x14, x15, rfl⟩ := ex16 hl
  rfl
theorem sh3_end {l : List UInt8} (hl : l.length = 16) : iter2 (shF 3 l) z16 4 = unshL l := by
  obtain ⟨x0, x1, x2, x3, x4, x5, x6, x7, x8, x9, x10, x11, x12, x13, x14, x15, rfl⟩ := ex16 hl
  rfl
def rshF (l : List UInt8) (k : Nat) (o : List UInt8) : List UInt8 := o.set (k % 4 * 4 + k / 4) (l.getD (k % 4 * 4 + (k / 4 + k) % 4) 0)
theorem rshF_len (l : List UInt8) : ∀ k o, (rshF l k o).length = o.length := fun k o => by simp [rshF]
theorem rsh_end {l : List UInt8} (hl : l.length = 16) : iterU (rshF l) z16 16 = shL l := by
  obtain ⟨x0, x1, x2, x3, x4, x5, x6, x7, x8, x9, x10, x11, x12, x13, x14, x15, rfl⟩ := ex16 hl
  rfl
def runF (l : List UInt8) (k : Nat) (o : List UInt8) : List UInt8 := o.set (k % 4 * 4 + (k / 4 + k) % 4) (l.getD (k % 4 * 4 + k / 4) 0)
theorem runF_len (l : List UInt8) : ∀ k o, (runF l k o).length = o.length := fun k o => by simp [runF]
theorem run_end {l : List UInt8} (hl : l.length = 16) : iterU (runF l) z16 16 = unshL l := by
  obtain ⟨x0, x1, x2, x3, x4, x5, x6, x7, x8, x9, x10, x11, x12, x13, x14, x15, rfl⟩ := ex16 hl
  rfl

set_option maxRecDepth 100000 in
set_option maxHeartbeats 1000000 in
theorem shifted1_n (l : List UInt8) (hl : l.length = 16) (w : World) : Calls Try.prog 71 #[aggB l, .int .i64 1] w fun e w' => e = .returned (aggB (shL l)) ∧ w.grownBy w' none := by
  unfold aggB
  obtain ⟨hb, hr, hs, hg⟩ := three w l z16 z16 95 95 95
  have HR := Lib.hid hr
  have HS := Lib.hid hs
  have HG := Lib.hid hg
  have HB := Lib.hid hb
  clear hr hg hs hb
  go_enter Try.func71, Try.ntmps71
  go_wp2_with fail
  go_loopw [8] (fun vi wr => ∃ k : Nat, k ≤ 4 ∧ vi = .int .i64 k ∧ Blk wr w.heap.size 95 l ∧ Blk wr (w.heap.size + 1) 95 z16 ∧ Blk wr (w.heap.size + 1 + 1) 95 (iter2 (shF 1 l) z16 k) ∧ w.grownBy wr none) (fun vi _ => 4 - (intOf vi).toNat)
  case atStart => exact ⟨0, by omega, rfl, HB.out, HR.out, HS.out, HG.out⟩
  case round =>
    obtain ⟨r, hk, rfl, hb, hr, hs, hg⟩ := hrel
    have HBB := Lib.hid hb
    have HRR := Lib.hid hr
    have HGG := Lib.hid hg
    have HSS := Lib.hid hs
    clear hr hg hs hb
    by_cases hlt : r < 4
    · go_wp2_with fail
      go_loopw [11] (fun vi wr => ∃ k : Nat, k ≤ 4 ∧ vi = .int .i64 k ∧ Blk wr w.heap.size 95 l ∧ Blk wr (w.heap.size + 1) 95 z16 ∧ Blk wr (w.heap.size + 1 + 1) 95 (iterU (shF 1 l r) (iter2 (shF 1 l) z16 r) k) ∧ w.grownBy wr none) (fun vi _ => 4 - (intOf vi).toNat)
      case atStart => exact ⟨0, by omega, rfl, HBB.out, HRR.out, HSS.out, HGG.out⟩
      case round =>
        clear HBB HRR HGG HSS
        obtain ⟨c, hk, rfl, hb, hr, hs, hg⟩ := hrel
        have HBB := Lib.hid hb
        have HRR := Lib.hid hr
        have HGG := Lib.hid hg
        have hlen : (iterU (shF 1 l r) (iter2 (shF 1 l) z16 r) c).length = 16 := (iterU_len (shF_len 1 l r) c).trans (iter2_len (shF_len 1 l) r)
        have hcell := hs.cell 16 hlen
        have hfree := hs.free
        have HSS := Lib.hid hs
        clear hr hg hs hlen hb
        by_cases hlc : c < 4
        · have hci := HBB.out.cell 16 hl (r * 4 + (c + 1 * r) % 4) (by omega)
          have hj : r * 4 + c < 16 := by omega
          have hcj := hcell _ hj
          obtain ⟨u0, hu0⟩ : ∃ u0, wr.cell? ⟨w.heap.size + 1 + 1, r * 4 + c, none⟩ = some u0 := ⟨_, hcj⟩
          have hset := HSS.out.set (r * 4 + c) (l.getD (r * 4 + (c + 1 * r) % 4) 0)
          have he : iterU (shF 1 l r) (iter2 (shF 1 l) z16 r) (c + 1) = (iterU (shF 1 l r) (iter2 (shF 1 l) z16 r) c).set (r * 4 + c) (l.getD (r * 4 + (c + 1 * r) % 4) 0) := rfl
          obtain ⟨x, hx⟩ : ∃ x, x = l.getD (r * 4 + (c + 1 * r) % 4) 0 := ⟨_, rfl⟩
          rw [← hx] at hset hci he
          rw [← he] at hset
          have HSET := Lib.hid hset
          clear hset HSS hcell hcj hj hx he
          simp only [Nat.one_mul] at hci
          go_wp2_with fail
          go_region
          go_wp2
          go_roundw
          case rel => exact ⟨c + 1, by omega, by go_num, (HBB.out.other (by omega)).dr, (HRR.out.other (by omega)).dr, HSET.out.dr, grownBy_d1 (grownBy_old HGG.out (grownBy_setCell _ _ _ _) (by omega))⟩
          case measure => simp [intOf]; omega
        · obtain rfl : c = 4 := by omega
          clear hcell hfree
          go_wp2_with fail
          go_roundw
          case rel => exact ⟨r + 1, by omega, by go_num, HBB.out, HRR.out, HSS.out, HGG.out⟩
          case measure => simp [intOf]; omega
    · obtain rfl : r = 4 := by omega
      have hs := HSS.out
      rw [sh1_end hl] at hs
      have HS2 := Lib.hid hs
      clear hs HSS
      go_wp2_with (first | (refine wpList_load_row rfl 95 _ rfl (w.heap.size + 1 + 1) rfl 95 (cellsB (shL l)) (0, 0) _ HS2.out Try.underlying95 rfl (by rw [size_state, cellsB_size, shL_len hl]) ?_) | (refine wpList_store_row rfl 95 _ _ rfl (w.heap.size + 1) (cellsB (shL l)) rfl rfl 95 _ HRR.out (by rw [size_state, cellsB_size, shL_len hl]) (by rw [cellsB_size, cellsB_size, shL_len hl]; rfl) (cellsB_one _) ?_))
      refine bodyPost_ret (v := .agg (cellsB (shL l))) (results_cell_row rfl _ _ (w.heap.size + 1) 95 (cellsB (shL l)) (0, 0) _ rfl (setRow_heap _ _ _ _ _ _ HRR.out) Try.underlying95 rfl (by rw [size_state, cellsB_size, shL_len hl])) rfl ⟨rfl, ?_⟩
      exact grownBy_old HGG.out (grownBy_setRow _ _ _) (by omega)

set_option maxRecDepth 100000 in
set_option maxHeartbeats 1000000 in
theorem shifted3_n (l : List UInt8) (hl : l.length = 16) (w : World) : Calls Try.prog 71 #[aggB l, .int .i64 3] w fun e w' => e = .returned (aggB (unshL l)) ∧ w.grownBy w' none := by
  unfold aggB
  obtain ⟨hb, hr, hs, hg⟩ := three w l z16 z16 95 95 95
  have HR := Lib.hid hr
  have HS := Lib.hid hs
  have HG := Lib.hid hg
  have HB := Lib.hid hb
  clear hr hg hs hb
  go_enter Try.func71, Try.ntmps71
  go_wp2_with fail
  go_loopw [8] (fun vi wr => ∃ k : Nat, k ≤ 4 ∧ vi = .int .i64 k ∧ Blk wr w.heap.size 95 l ∧ Blk wr (w.heap.size + 1) 95 z16 ∧ Blk wr (w.heap.size + 1 + 1) 95 (iter2 (shF 3 l) z16 k) ∧ w.grownBy wr none) (fun vi _ => 4 - (intOf vi).toNat)
  case atStart => exact ⟨0, by omega, rfl, HB.out, HR.out, HS.out, HG.out⟩
  case round =>
    obtain ⟨r, hk, rfl, hb, hr, hs, hg⟩ := hrel
    have HBB := Lib.hid hb
    have HRR := Lib.hid hr
    have HGG := Lib.hid hg
    have HSS := Lib.hid hs
    clear hr hg hs hb
    by_cases hlt : r < 4
    · go_wp2_with fail
      go_loopw [11] (fun vi wr => ∃ k : Nat, k ≤ 4 ∧ vi = .int .i64 k ∧ Blk wr w.heap.size 95 l ∧ Blk wr (w.heap.size + 1) 95 z16 ∧ Blk wr (w.heap.size + 1 + 1) 95 (iterU (shF 3 l r) (iter2 (shF 3 l) z16 r) k) ∧ w.grownBy wr none) (fun vi _ => 4 - (intOf vi).toNat)
      case atStart => exact ⟨0, by omega, rfl, HBB.out, HRR.out, HSS.out, HGG.out⟩
      case round =>
        clear HBB HRR HGG HSS
        obtain ⟨c, hk, rfl, hb, hr, hs, hg⟩ := hrel
        have HBB := Lib.hid hb
        have HRR := Lib.hid hr
        have HGG := Lib.hid hg
        have hlen : (iterU (shF 3 l r) (iter2 (shF 3 l) z16 r) c).length = 16 := (iterU_len (shF_len 3 l r) c).trans (iter2_len (shF_len 3 l) r)
        have hcell := hs.cell 16 hlen
        have hfree := hs.free
        have HSS := Lib.hid hs
        clear hr hg hs hlen hb
        by_cases hlc : c < 4
        · have hci := HBB.out.cell 16 hl (r * 4 + (c + 3 * r) % 4) (by omega)
          have hj : r * 4 + c < 16 := by omega
          have hcj := hcell _ hj
          obtain ⟨u0, hu0⟩ : ∃ u0, wr.cell? ⟨w.heap.size + 1 + 1, r * 4 + c, none⟩ = some u0 := ⟨_, hcj⟩
          have hset := HSS.out.set (r * 4 + c) (l.getD (r * 4 + (c + 3 * r) % 4) 0)
          have he : iterU (shF 3 l r) (iter2 (shF 3 l) z16 r) (c + 1) = (iterU (shF 3 l r) (iter2 (shF 3 l) z16 r) c).set (r * 4 + c) (l.getD (r * 4 + (c + 3 * r) % 4) 0) := rfl
          obtain ⟨x, hx⟩ : ∃ x, x = l.getD (r * 4 + (c + 3 * r) % 4) 0 := ⟨_, rfl⟩
          rw [← hx] at hset hci he
          rw [← he] at hset
          have HSET := Lib.hid hset
          clear hset HSS hcell hcj hj hx he
          skip
          go_wp2_with fail
          go_region
          go_wp2
          go_roundw
          case rel => exact ⟨c + 1, by omega, by go_num, (HBB.out.other (by omega)).dr, (HRR.out.other (by omega)).dr, HSET.out.dr, grownBy_d1 (grownBy_old HGG.out (grownBy_setCell _ _ _ _) (by omega))⟩
          case measure => simp [intOf]; omega
        · obtain rfl : c = 4 := by omega
          clear hcell hfree
          go_wp2_with fail
          go_roundw
          case rel => exact ⟨r + 1, by omega, by go_num, HBB.out, HRR.out, HSS.out, HGG.out⟩
          case measure => simp [intOf]; omega
    · obtain rfl : r = 4 := by omega
      have hs := HSS.out
      rw [sh3_end hl] at hs
      have HS2 := Lib.hid hs
      clear hs HSS
      go_wp2_with (first | (refine wpList_load_row rfl 95 _ rfl (w.heap.size + 1 + 1) rfl 95 (cellsB (unshL l)) (0, 0) _ HS2.out Try.underlying95 rfl (by rw [size_state, cellsB_size, unshL_len hl]) ?_) | (refine wpList_store_row rfl 95 _ _ rfl (w.heap.size + 1) (cellsB (unshL l)) rfl rfl 95 _ HRR.out (by rw [size_state, cellsB_size, unshL_len hl]) (by rw [cellsB_size, cellsB_size, unshL_len hl]; rfl) (cellsB_one _) ?_))
      refine bodyPost_ret (v := .agg (cellsB (unshL l))) (results_cell_row rfl _ _ (w.heap.size + 1) 95 (cellsB (unshL l)) (0, 0) _ rfl (setRow_heap _ _ _ _ _ _ HRR.out) Try.underlying95 rfl (by rw [size_state, cellsB_size, unshL_len hl])) rfl ⟨rfl, ?_⟩
      exact grownBy_old HGG.out (grownBy_setRow _ _ _) (by omega)

set_option maxRecDepth 100000 in
set_option maxHeartbeats 1000000 in
theorem shift_n (l : List UInt8) (hl : l.length = 16) (w : World) : Calls Try.prog 54 #[aggB l] w fun e w' => e = .returned (aggB (shL l)) ∧ w.grownBy w' none := by
  unfold aggB
  obtain ⟨hb, hr, hg⟩ := two w l z16 95 95
  have HR := Lib.hid hr
  have HG := Lib.hid hg
  have HB := Lib.hid hb
  clear hr hg hb
  go_enter Try.func54, Try.ntmps54
  go_wp2_with (refine wpList_load_row rfl 95 _ rfl w.heap.size rfl 95 (cellsB l) (0, 0) _ HB.out Try.underlying95 rfl (by rw [size_state, cellsB_size, hl]) ?_)
  refine (shifted1_n l hl _).mono ?_
  rintro e w' ⟨rfl, hg⟩
  have hr := HR.out.grown hg (by simp)
  have HRR := Lib.hid hr
  have HGG := Lib.hid (grownBy_trans HG.out hg)
  clear hr hg
  unfold aggB
  go_wp2_with (refine wpList_store_row rfl 95 _ _ rfl (w.heap.size + 1) (cellsB (shL l)) rfl rfl 95 _ HRR.out (by rw [size_state, cellsB_size, shL_len hl]) (by rw [cellsB_size, cellsB_size, shL_len hl]; rfl) (cellsB_one _) ?_)
  refine bodyPost_ret (v := .agg (cellsB (shL l))) (results_cell_row rfl _ _ (w.heap.size + 1) 95 (cellsB (shL l)) (0, 0) _ rfl (setRow_heap _ _ _ _ _ _ HRR.out) Try.underlying95 rfl (by rw [size_state, cellsB_size, shL_len hl])) rfl ⟨rfl, ?_⟩
  exact grownBy_old HGG.out (grownBy_setRow _ _ _) (by omega)

set_option maxRecDepth 100000 in
set_option maxHeartbeats 1000000 in
theorem refShift_n (l : List UInt8) (hl : l.length = 16) (w : World) : Calls Try.prog 64 #[aggB l] w fun e w' => e = .returned (aggB (shL l)) ∧ w.grownBy w' none := by
  unfold aggB
  obtain ⟨hb, hr, hs, hg⟩ := three w l z16 z16 95 95 95
  have HR := Lib.hid hr
  have HS := Lib.hid hs
  have HG := Lib.hid hg
  have HB := Lib.hid hb
  clear hr hg hs hb
  go_enter Try.func64, Try.ntmps64
  go_wp2_with fail
  go_loopw [4] (fun vi wr => ∃ k : Nat, k ≤ 16 ∧ vi = .int .i64 k ∧ Blk wr w.heap.size 95 l ∧ Blk wr (w.heap.size + 1) 95 z16 ∧ Blk wr (w.heap.size + 1 + 1) 95 (iterU (rshF l) z16 k) ∧ w.grownBy wr none) (fun vi _ => 16 - (intOf vi).toNat)
  case atStart => exact ⟨0, by omega, rfl, HB.out, HR.out, HS.out, HG.out⟩
  case round =>
    obtain ⟨k, hk, rfl, hb, hr, hs, hg⟩ := hrel
    have HBB := Lib.hid hb
    have HRR := Lib.hid hr
    have HGG := Lib.hid hg
    have hlen : (iterU (rshF l) z16 k).length = 16 := iterU_len (rshF_len l) k
    have hcell := hs.cell 16 hlen
    have hfree := hs.free
    have HSS := Lib.hid hs
    clear hr hg hs hlen hb
    by_cases hlt : k < 16
    · have hci := HBB.out.cell 16 hl (k % 4 * 4 + (k / 4 + k) % 4) (by omega)
      have hj : k % 4 * 4 + k / 4 < 16 := by omega
      have hcj := hcell _ hj
      obtain ⟨u0, hu0⟩ : ∃ u0, wr.cell? ⟨w.heap.size + 1 + 1, k % 4 * 4 + k / 4, none⟩ = some u0 := ⟨_, hcj⟩
      have hset := HSS.out.set (k % 4 * 4 + k / 4) (l.getD (k % 4 * 4 + (k / 4 + k) % 4) 0)
      have he : iterU (rshF l) z16 (k + 1) = (iterU (rshF l) z16 k).set (k % 4 * 4 + k / 4) (l.getD (k % 4 * 4 + (k / 4 + k) % 4) 0) := rfl
      obtain ⟨x, hx⟩ : ∃ x, x = l.getD (k % 4 * 4 + (k / 4 + k) % 4) 0 := ⟨_, rfl⟩
      rw [← hx] at hset hci he
      rw [← he] at hset
      have HSET := Lib.hid hset
      clear hset HSS hcell hcj hj hx he
      go_wp2_with fail
      go_region
      go_wp2
      go_roundw
      case rel => exact ⟨k + 1, by omega, by go_num, (HBB.out.other (by omega)).dr, (HRR.out.other (by omega)).dr, HSET.out.dr, grownBy_d1 (grownBy_old HGG.out (grownBy_setCell _ _ _ _) (by omega))⟩
      case measure => simp [intOf]; omega
    · obtain rfl : k = 16 := by omega
      clear hcell hfree
      have hs := HSS.out
      rw [rsh_end hl] at hs
      have HS2 := Lib.hid hs
      clear hs HSS
      go_wp2_with (first | (refine wpList_load_row rfl 95 _ rfl (w.heap.size + 1 + 1) rfl 95 (cellsB (shL l)) (0, 0) _ HS2.out Try.underlying95 rfl (by rw [size_state, cellsB_size, shL_len hl]) ?_) | (refine wpList_store_row rfl 95 _ _ rfl (w.heap.size + 1) (cellsB (shL l)) rfl rfl 95 _ HRR.out (by rw [size_state, cellsB_size, shL_len hl]) (by rw [cellsB_size, cellsB_size, shL_len hl]; rfl) (cellsB_one _) ?_))
      refine bodyPost_ret (v := .agg (cellsB (shL l))) (results_cell_row rfl _ _ (w.heap.size + 1) 95 (cellsB (shL l)) (0, 0) _ rfl (setRow_heap _ _ _ _ _ _ HRR.out) Try.underlying95 rfl (by rw [size_state, cellsB_size, shL_len hl])) rfl ⟨rfl, ?_⟩
      exact grownBy_old HGG.out (grownBy_setRow _ _ _) (by omega)

end Go.Proofs.Ytblgdfamomlklaa
/- aes: subs, each, SubAll, UnsubAll; the document's. -/
namespace Go.Proofs.Ytblgdfamomlklaa
open Go.RowKit

def tabS : List UInt8 := (List.range 256).map fun i => asub (UInt8.ofNat i)
def z256 : List UInt8 := List.replicate 256 0
def tbF (k : Nat) (o : List UInt8) : List UInt8 := o.set k (asub (UInt8.ofNat k))
theorem tbF_len : ∀ k o, (tbF k o).length = o.length := fun k o => by simp [tbF]
theorem tb_end : iterU tbF z256 256 = tabS := by decide +kernel
theorem tabS_len : tabS.length = 256 := by simp [tabS]
theorem tabS_get (x : UInt8) : tabS.getD x.toNat 0 = asub x := by
  have := x.toNat_lt
  simp [tabS, List.getD, this]
theorem size_tab : (Try.prog.info? 77).map (·.size) = some 256 := by kernel_rfl
theorem zero_tab : Try.zeroCells77 = cellsB z256 := by kernel_rfl
theorem u8_nat {k : Nat} (h : k < 256) : ((UInt8.ofNat k).toNat : Int) = (k : Int) := by rw [UInt8.toNat_ofNat', Nat.mod_eq_of_lt h]

set_option maxRecDepth 100000 in
set_option maxHeartbeats 1000000 in
theorem subs_n (w : World) : Calls Try.prog 45 #[] w fun e w' => e = .returned (aggB tabS) ∧ w.grownBy w' none := by
  obtain ⟨hr, hs, hg⟩ := two w z256 z256 77 77
  rw [← zero_tab] at hr hs hg
  have HR := Lib.hid hr
  have HS := Lib.hid hs
  have HG := Lib.hid hg
  clear hr hg hs
  go_enter Try.func45, Try.ntmps45
  go_wp2_with fail
  go_loopw [3] (fun vi wr => ∃ k : Nat, k ≤ 256 ∧ vi = .int .i64 k ∧ Blk wr w.heap.size 77 z256 ∧ Blk wr (w.heap.size + 1) 77 (iterU tbF z256 k) ∧ w.grownBy wr none) (fun vi _ => 256 - (intOf vi).toNat)
  case atStart => exact ⟨0, by omega, rfl, HR.out, HS.out, HG.out⟩
  case round =>
    obtain ⟨k, hk, rfl, hr, hs, hg⟩ := hrel
    have HRR := Lib.hid hr
    have HGG := Lib.hid hg
    have hlen : (iterU tbF z256 k).length = 256 := (iterU_len tbF_len k).trans (by simp [z256])
    have hcell := hs.cell 256 hlen
    have hfree := hs.free
    have HSS := Lib.hid hs
    clear hr hg hs hlen
    by_cases hlt : k < 256
    · have hcj := hcell _ hlt
      obtain ⟨u0, hu0⟩ : ∃ u0, wr.cell? ⟨w.heap.size + 1, k, none⟩ = some u0 := ⟨_, hcj⟩
      have hset := HSS.out.set k (asub (UInt8.ofNat k))
      have he : iterU tbF z256 (k + 1) = (iterU tbF z256 k).set k (asub (UInt8.ofNat k)) := rfl
      rw [← he] at hset
      have HSET := Lib.hid hset
      clear hset HSS hcell hcj he
      go_wp2_with (go_at_call 51; refine (sub_i _ (UInt8.ofNat k) _ (u8_nat hlt)).mono ?_; rintro e w' ⟨rfl, rfl⟩)
      go_roundw
      case rel => exact ⟨k + 1, by omega, by go_num, HRR.out.other (by omega), HSET.out, grownBy_old HGG.out (grownBy_setCell _ _ _ _) (by omega)⟩
      case measure => simp [intOf]; omega
    · obtain rfl : k = 256 := by omega
      have e256 : ((256 : Nat) : Int) = 256 := rfl
      rw [e256]
      clear hcell hfree e256
      have hs := HSS.out
      rw [tb_end] at hs
      have HS2 := Lib.hid hs
      clear hs HSS
      have hz : z256.length = 256 := by simp [z256]
      go_wp2_with (first | (refine wpList_load_row rfl 77 _ rfl (w.heap.size + 1) rfl 77 (cellsB tabS) (0, 0) _ HS2.out Try.underlying77 rfl (by rw [size_tab, cellsB_size, tabS_len]) ?_) | (refine wpList_store_row rfl 77 _ _ rfl w.heap.size (cellsB tabS) rfl rfl 77 _ HRR.out (by rw [size_tab, cellsB_size, tabS_len]) (by rw [cellsB_size, cellsB_size, tabS_len, hz]) (cellsB_one _) ?_))
      refine bodyPost_ret (v := .agg (cellsB tabS)) (results_cell_row rfl _ _ w.heap.size 77 (cellsB tabS) (0, 0) _ rfl (setRow_heap _ _ _ _ _ _ HRR.out) Try.underlying77 rfl (by rw [size_tab, cellsB_size, tabS_len])) rfl ⟨rfl, ?_⟩
      exact grownBy_old HGG.out (grownBy_setRow _ _ _) (by omega)

end Go.Proofs.Ytblgdfamomlklaa
/- aes: each, SubAll, UnsubAll; the document's. -/
namespace Go.Proofs.Ytblgdfamomlklaa
open Go.RowKit

def eaF (f : UInt8 → UInt8) (r c : Nat) (o : List UInt8) : List UInt8 := o.set (r * 4 + c) (f (o.getD (r * 4 + c) 0))
theorem eaF_len (f : UInt8 → UInt8) : ∀ r c o, (eaF f r c o).length = o.length := fun r c o => by simp [eaF]
theorem ea_end (f : UInt8 → UInt8) {l : List UInt8} (hl : l.length = 16) : iter2 (eaF f) l 4 = l.map f := by
  obtain ⟨x0, x1, x2, x3, x4, x5, x6, x7, x8, x9, x10, x11, x12, x13, x14, x15, rfl⟩ := ex16 hl
  simp [iter2, iterU, eaF]
def reF (f : UInt8 → UInt8) (k : Nat) (o : List UInt8) : List UInt8 := o.set (k % 4 * 4 + k / 4) (f (o.getD (k % 4 * 4 + k / 4) 0))
theorem reF_len (f : UInt8 → UInt8) : ∀ k o, (reF f k o).length = o.length := fun k o => by simp [reF]
theorem re_end (f : UInt8 → UInt8) {l : List UInt8} (hl : l.length = 16) : iterU (reF f) l 16 = l.map f := by
  obtain ⟨x0, x1, x2, x3, x4, x5, x6, x7, x8, x9, x10, x11, x12, x13, x14, x15, rfl⟩ := ex16 hl
  simp [iterU, reF]
theorem map_len (f : UInt8 → UInt8) {l : List UInt8} (hl : l.length = 16) : (l.map f).length = 16 := by simp [hl]

set_option maxRecDepth 100000 in
set_option maxHeartbeats 1000000 in
theorem refSubAll_n (l : List UInt8) (hl : l.length = 16) (w : World) : Calls Try.prog 62 #[aggB l] w fun e w' => e = .returned (aggB (l.map asub)) ∧ w.grownBy w' none := by
  unfold aggB
  obtain ⟨hs, hr, hg⟩ := two w l z16 95 95
  have HR := Lib.hid hr
  have HS := Lib.hid hs
  have HG := Lib.hid hg
  clear hr hg hs
  go_enter Try.func62, Try.ntmps62
  go_wp2_with fail
  go_loopw [3] (fun vi wr => ∃ k : Nat, k ≤ 16 ∧ vi = .int .i64 k ∧ Blk wr (w.heap.size + 1) 95 z16 ∧ Blk wr w.heap.size 95 (iterU (reF asub) l k) ∧ w.grownBy wr none) (fun vi _ => 16 - (intOf vi).toNat)
  case atStart => exact ⟨0, by omega, rfl, HR.out, HS.out, HG.out⟩
  case round =>
    obtain ⟨k, hk, rfl, hr, hs, hg⟩ := hrel
    have HRR := Lib.hid hr
    have HGG := Lib.hid hg
    have hlen : (iterU (reF asub) l k).length = 16 := (iterU_len (reF_len asub) k).trans hl
    have hcell := hs.cell 16 hlen
    have hfree := hs.free
    have HSS := Lib.hid hs
    clear hr hg hs hlen
    by_cases hlt : k < 16
    · have hj : k % 4 * 4 + k / 4 < 16 := by omega
      have hcj := hcell _ hj
      have hset := HSS.out.set (k % 4 * 4 + k / 4) (asub ((iterU (reF asub) l k).getD (k % 4 * 4 + k / 4) 0))
      have he : iterU (reF asub) l (k + 1) = (iterU (reF asub) l k).set (k % 4 * 4 + k / 4) (asub ((iterU (reF asub) l k).getD (k % 4 * 4 + k / 4) 0)) := rfl
      obtain ⟨x, hx⟩ : ∃ x, x = (iterU (reF asub) l k).getD (k % 4 * 4 + k / 4) 0 := ⟨_, rfl⟩
      rw [← hx] at hset hcj he
      rw [← he] at hset
      obtain ⟨q, hq⟩ : ∃ q, q = k % 4 := ⟨_, rfl⟩
      obtain ⟨d, hd⟩ : ∃ d, d = k / 4 := ⟨_, rfl⟩
      have t1 : ((k : Int)).tmod 4 = (q : Int) := by rw [hq]; rfl
      have t2 : ((k : Int)).tdiv 4 = (d : Int) := by rw [hd]; rfl
      have t1' : (k : Int) % 4 = (q : Int) := by omega
      have t2' : (k : Int) / 4 = (d : Int) := by omega
      have t5 : IntKind.i64.wrap (d : Int) = (d : Int) := i64_nat _ (by omega)
      have t3 : (q : Int) < 4 := by omega
      have t4 : (d : Int) < 4 := by omega
      rw [← hq, ← hd] at hset hcj
      have HSET := Lib.hid hset
      have HQ := Lib.hid hq
      have HD := Lib.hid hd
      clear hset HSS hcell hj hx he hq hd
      go_wp2_with fail
      go_region_with (go_at_call 72; refine (refSub_i _ x _ rfl).mono ?_; rintro e w' ⟨rfl, rfl⟩)
      all_goals trace "WAY"
      all_goals
        go_wp2
        go_roundw
        case rel => exact ⟨k + 1, by omega, by go_num, (HRR.out.other (by omega)).dr, HSET.out.dr, grownBy_d1 (grownBy_old HGG.out (grownBy_setCell _ _ _ _) (by omega))⟩
        case measure => simp [intOf]; omega
    · obtain rfl : k = 16 := by omega
      clear hcell hfree
      have hs := HSS.out
      rw [re_end asub hl] at hs
      have HS2 := Lib.hid hs
      clear hs HSS
      go_wp2_with (first | (refine wpList_load_row rfl 95 _ rfl w.heap.size rfl 95 (cellsB (l.map asub)) (0, 0) _ HS2.out Try.underlying95 rfl (by rw [size_state, cellsB_size, map_len asub hl]) ?_) | (refine wpList_store_row rfl 95 _ _ rfl (w.heap.size + 1) (cellsB (l.map asub)) rfl rfl 95 _ HRR.out (by rw [size_state, cellsB_size, map_len asub hl]) (by rw [cellsB_size, cellsB_size, map_len asub hl]; rfl) (cellsB_one _) ?_))
      refine bodyPost_ret (v := .agg (cellsB (l.map asub))) (results_cell_row rfl _ _ (w.heap.size + 1) 95 (cellsB (l.map asub)) (0, 0) _ rfl (setRow_heap _ _ _ _ _ _ HRR.out) Try.underlying95 rfl (by rw [size_state, cellsB_size, map_len asub hl])) rfl ⟨rfl, ?_⟩
      exact grownBy_old HGG.out (grownBy_setRow _ _ _) (by omega)

end Go.Proofs.Ytblgdfamomlklaa
/- aes: SubAll, UnsubAll. -/
namespace Go.Proofs.Ytblgdfamomlklaa
open Go.RowKit

theorem Blk.row {w : World} {g : Nat} {t : TypeId} {l : List UInt8} (h : Blk w g t l) (l' : List UInt8) : Blk (w.setRow g (cellsB l')) g t l' := setRow_heap _ _ _ _ _ _ h
theorem Blk.rowNe {w : World} {g g' : Nat} {t : TypeId} {l : List UInt8} (h : Blk w g t l) (cs : Array Value) (hne : g ≠ g') : Blk (w.setRow g' cs) g t l := (setRow_other w g' g _ hne).trans h

end Go.Proofs.Ytblgdfamomlklaa
/- Arrays of bytes (and arrays of such) are compared cell by cell. No walk. -/
namespace Go.Proofs.Ytblgdfamomlklaa
open Go.RowKit

def litB (x : UInt8) : Lit := .int .u8 (x.toNat : Int)
theorem litB_inj {a b : List UInt8} : a.map litB = b.map litB ↔ a = b := by
  constructor
  · intro h
    induction a generalizing b with
    | nil => cases b <;> simp_all
    | cons x a ih =>
      cases b with
      | nil => simp at h
      | cons y b =>
        simp only [List.map_cons, List.cons.injEq] at h
        obtain ⟨h1, h2⟩ := h
        unfold litB at h1
        injection h1 with _ h1
        have hxy : x = y := UInt8.toNat_inj.1 (by omega)
        rw [ih h2, hxy]
  · rintro rfl; rfl

theorem mapM_some {α β : Type} (f : α → Option β) (g : α → β) : ∀ (xs : List α), (∀ x ∈ xs, f x = some (g x)) → xs.mapM f = some (xs.map g)
  | [], _ => rfl
  | x :: xs, h => by
    rw [List.mapM_cons, h x (by simp), mapM_some f g xs (fun y hy => h y (by simp [hy]))]
    rfl

theorem flatten_parts {α : Type} (k : Nat) : ∀ (n : Nat) (L : List α), L.length = n * k → ((List.range n).map fun i => (L.drop (i * k)).take k).flatten = L
  | 0, L, h => by simp at h; simp [h]
  | n + 1, L, h => by
    rw [List.range_succ_eq_map, List.map_cons, List.flatten_cons, List.map_map]
    have e : ((List.range n).map ((fun i => (L.drop (i * k)).take k) ∘ Nat.succ)) = (List.range n).map fun i => ((L.drop k).drop (i * k)).take k := by
      apply List.map_congr_left
      intro i _
      simp only [Function.comp, List.drop_drop, Nat.succ_eq_add_one, Nat.add_mul, Nat.one_mul]
      rw [Nat.add_comm]
    rw [e, flatten_parts k n (L.drop k) (by rw [List.length_drop, h, Nat.add_mul]; omega)]
    simp

section
variable {P : Program}
theorem lits_arr {t e : TypeId} {n k D : Nat} (hu : P.underlying t = some (.array n e)) (hc : P.cellsOf t = n * k) (he : P.cellsOf e = k) (l : List UInt8) (hl : l.length = n * k)
    (h : ∀ m : List UInt8, m.length = k → P.keyLits D e (m.map bval) = some (m.map litB)) : P.keyLits (D + 1) t (l.map bval) = some (l.map litB) := by
  unfold Program.keyLits
  rw [hu]
  show (if (l.map bval).length = P.cellsOf t then Option.map List.flatten (List.mapM (fun i => P.keyLits D e (List.take (P.cellsOf e) (List.drop (i * P.cellsOf e) (l.map bval)))) (List.range n)) else none) = _
  rw [he, hc]
  simp only [List.length_map, hl, if_true]
  rw [mapM_some _ (fun i => ((l.map litB).drop (i * k)).take k)]
  · rw [Option.map_some, flatten_parts k n _ (by rw [List.length_map, hl])]
  · intro i hi
    have hi' : i < n := by simpa using hi
    rw [← List.map_drop, ← List.map_take, ← List.map_drop, ← List.map_take]
    refine h _ ?_
    rw [List.length_take, List.length_drop, hl]
    have : (i + 1) * k ≤ n * k := Nat.mul_le_mul_right k hi'
    rw [Nat.add_mul] at this
    omega

theorem lits_byte {e : TypeId} {D : Nat} (hu : P.underlying e = some (.int .u8)) (m : List UInt8) (hm : m.length = 1) : P.keyLits (D + 1) e (m.map bval) = some (m.map litB) := by
  obtain ⟨x, rfl⟩ : ∃ x, m = [x] := by
    match m, hm with
    | [x], _ => exact ⟨x, rfl⟩
  have := x.toNat_lt
  unfold Program.keyLits
  rw [hu]
  have hw : (Lit.int .u8 (x.toNat : Int)).wf = true := by simp [Lit.wf, show IntKind.u8.min = 0 from rfl, show IntKind.u8.max = 255 from rfl]; omega
  simp [bval, litB, hw]

theorem eql_lits {t : TypeId} {m D : Nat} (hm : m ≤ 10000) (hk : P.keyTypeAt m t = true) {l r : List UInt8} (fl : (Value.agg (l.map bval).toArray).formed P t = true) (fr : (Value.agg (r.map bval).toArray).formed P t = true)
    (hl : P.keyLits D t (l.map bval) = some (l.map litB)) (hr : P.keyLits D t (r.map bval) = some (r.map litB)) (w : World) :
    (binOp .eql t (.agg (l.map bval).toArray) (.agg (r.map bval).toArray)).run P w = .ok (.bool (decide (l = r))) w ∧ (binOp .neq t (.agg (l.map bval).toArray) (.agg (r.map bval).toArray)).run P w = .ok (.bool (!decide (l = r))) w := by
  obtain ⟨b, hb, hiff⟩ := run_equalIn_deep (P := P) (10000 - m) m t hk w D D _ _ _ _ fl fr (by simpa [Value.cells] using hl) (by simpa [Value.cells] using hr)
  rw [show 10000 - m + m = 10000 by omega] at hb
  have e : b = decide (l = r) := by
    rw [litB_inj] at hiff
    by_cases h : l = r
    · simp [h, hiff.2 h]
    · have : b = false := by
        cases b
        · rfl
        · exact absurd (hiff.1 rfl) h
      simp [h, this]
  rw [run_eql_struct, run_neq_struct, hb, e]
  exact ⟨rfl, rfl⟩
end

end Go.Proofs.Ytblgdfamomlklaa
/- States and blocks compared; what stays while memory is made. -/
namespace Go.Proofs.Ytblgdfamomlklaa
open Go.RowKit

theorem lits_block (l : List UInt8) (hl : l.length = 16) : Try.prog.keyLits 2 24 (l.map bval) = some (l.map litB) :=
  lits_arr (n := 16) (k := 1) Try.underlying24 (by kernel_rfl) (by kernel_rfl) _ hl (fun m hm => lits_byte Try.underlying5 m hm)
theorem lits_state (l : List UInt8) (hl : l.length = 16) : Try.prog.keyLits 3 95 (l.map bval) = some (l.map litB) :=
  lits_arr (n := 4) (k := 4) Try.underlying95 (by kernel_rfl) (by kernel_rfl) _ hl (fun m hm => lits_arr (n := 4) (k := 1) Try.underlying91 (by kernel_rfl) (by kernel_rfl) _ hm (fun m hm => lits_byte Try.underlying5 m hm))
theorem formed_block (l : List UInt8) (hl : l.length = 16) : (Value.agg (l.map bval).toArray).formed Try.prog 24 = true := by
  simp [Value.formed, Try.underlying24, hl]; kernel_rfl
theorem formed_state (l : List UInt8) (hl : l.length = 16) : (Value.agg (l.map bval).toArray).formed Try.prog 95 = true := by
  simp [Value.formed, Try.underlying95, hl]; kernel_rfl
theorem eq_block (l r : List UInt8) (hl : l.length = 16) (hr : r.length = 16) (w : World) :
    (binOp .eql 24 (.agg (cellsB l)) (.agg (cellsB r))).run Try.prog w = .ok (.bool (decide (l = r))) w ∧ (binOp .neq 24 (.agg (cellsB l)) (.agg (cellsB r))).run Try.prog w = .ok (.bool (!decide (l = r))) w :=
  eql_lits (P := Try.prog) (t := 24) (m := 5) (D := 2) (by decide) (by kernel_rfl) (formed_block l hl) (formed_block r hr) (lits_block l hl) (lits_block r hr) w
theorem eq_state (l r : List UInt8) (hl : l.length = 16) (hr : r.length = 16) (w : World) :
    (binOp .eql 95 (.agg (cellsB l)) (.agg (cellsB r))).run Try.prog w = .ok (.bool (decide (l = r))) w ∧ (binOp .neq 95 (.agg (cellsB l)) (.agg (cellsB r))).run Try.prog w = .ok (.bool (!decide (l = r))) w :=
  eql_lits (P := Try.prog) (t := 95) (m := 5) (D := 3) (by decide) (by kernel_rfl) (formed_state l hl) (formed_state r hr) (lits_state l hl) (lits_state r hr) w
theorem same_block (l : List UInt8) (hl : l.length = 16) (w : World) : (binOp .eql 24 (.agg (cellsB l)) (.agg (cellsB l))).run Try.prog w = .ok (.bool true) w := by simpa using (eq_block l l hl hl w).1
theorem nsame_block (l : List UInt8) (hl : l.length = 16) (w : World) : (binOp .neq 24 (.agg (cellsB l)) (.agg (cellsB l))).run Try.prog w = .ok (.bool false) w := by simpa using (eq_block l l hl hl w).2
theorem same_state (l : List UInt8) (hl : l.length = 16) (w : World) : (binOp .eql 95 (.agg (cellsB l)) (.agg (cellsB l))).run Try.prog w = .ok (.bool true) w := by simpa using (eq_state l l hl hl w).1
theorem nsame_state (l : List UInt8) (hl : l.length = 16) (w : World) : (binOp .neq 95 (.agg (cellsB l)) (.agg (cellsB l))).run Try.prog w = .ok (.bool false) w := by simpa using (eq_state l l hl hl w).2

theorem range_grown {w1 w2 : World} {b o : Nat} {cs : List Value} (h : w1.rangeAt b o cs) (hg : w1.grownBy w2 none) : w2.rangeAt b o cs := fun j v hj =>
  (World.cell?_of_block (hg.block _ (World.block_lt_of_cell? w1 _ (h j v hj)) (by simp))).trans (h j v hj)
theorem Blk.range {w : World} {g : Nat} {t : TypeId} {l : List UInt8} (h : Blk w g t l) : w.rangeAt g 0 (l.map bval) := by
  have h' : w.heap[g]? = some (.cells (cellsB l) t (0, 0)) := h
  intro j v hj
  rw [Nat.zero_add]
  simp only [World.cell?, h']
  simpa [cellsB] using hj
theorem keep2 {w w1 w2 : World} {x y : Nat} {s b : List Value} (hg : w1.grownBy w2 none) (h : w.grownBy w1 none ∧ w1.rangeAt x 0 s ∧ w1.rangeAt y 0 b) : w.grownBy w2 none ∧ w2.rangeAt x 0 s ∧ w2.rangeAt y 0 b :=
  ⟨grownBy_trans h.1 hg, range_grown h.2.1 hg, range_grown h.2.2 hg⟩
theorem keep2d {w w1 : World} {x y : Nat} {s b : List Value} (h : w.grownBy w1 none ∧ w1.rangeAt x 0 s ∧ w1.rangeAt y 0 b) : w.grownBy w1.drew none ∧ w1.drew.rangeAt x 0 s ∧ w1.drew.rangeAt y 0 b :=
  keep2 (grownBy_d1 (World.grownBy.refl _ _)) h

end Go.Proofs.Ytblgdfamomlklaa
