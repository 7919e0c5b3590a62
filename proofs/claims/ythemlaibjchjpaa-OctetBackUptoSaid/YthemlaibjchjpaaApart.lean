/- What ApartBytes leans on: slices as values, lists of slices that own their rows, and what each loop's round does to them. No walk. -/
import Derived.Test.YthemlaibjchjpaaKept
namespace Go.Proofs.Ythemlaibjchjpaa
open Go.RowKit

/-- a slice's value -/
structure Sl where
  a : Option Addr
  n : Nat
  c : Nat
def Sl.val (s : Sl) : Value := .slice s.a s.n s.c
/-- the block in which it has room -/
def Sl.blk (s : Sl) : Option Nat := if s.c = 0 then none else s.a.map (·.block)

/-- the marks of list k -/
def mkl (k n : Nat) : List UInt8 := (List.range n).map fun (i : Nat) => mrk ((k : Int) + 1) (i : Int)
theorem mkl_succ (k n : Nat) : mkl k (n + 1) = mkl k n ++ [mrk ((k : Int) + 1) (n : Int)] := by simp [mkl, List.range_succ]
theorem mkl_length (k n : Nat) : (mkl k n).length = n := by simp [mkl]
theorem mkl_take (k n m : Nat) (h : m ≤ n) : (mkl k n).take m = mkl k m := by
  simp [mkl, ← List.map_take, List.take_range, Nat.min_eq_left h]
theorem mkl_get (k n i : Nat) (h : i < (mkl k n).length) : (mkl k n)[i] = mrk ((k : Int) + 1) (i : Int) := by simp [mkl]

/-- a slice of slices of bytes that the call owns -/
def SOwn (w : World) (base : Nat) (a : Option Addr) (n c : Nat) (L : List Sl) : Prop := Own w base 22 1 a n c (L.map Sl.val)

theorem SOwn.len {w : World} {base : Nat} {a : Option Addr} {n c : Nat} {L : List Sl} (h : SOwn w base a n c L) : L.length = n := by
  have := h.1; simpa using this

theorem elS : El Try.prog 24 22 (.slice none 0 0) 1 24 :=
  ⟨Try.underlying24, info_parts (by kernel_rfl), rfl, by decide⟩

/-- rows of unlike element types lie in unlike blocks -/
theorem own_ne {w : World} {base base' : Nat} {e e' size size' : Nat} {g g' n n' c c' : Nat} {xs ys : List Value} (h : Own w base e size (some ⟨g, 0, none⟩) n c xs) (h' : Own w base' e' size' (some ⟨g', 0, none⟩) n' c' ys) (hc : 0 < c) (hc' : 0 < c') (hne : e ≠ e') : g ≠ g' := by
  rcases h.2 with ⟨_, h0⟩ | ⟨_, cur, ha, _, hh, _⟩
  · omega
  rcases h'.2 with ⟨_, h0⟩ | ⟨_, cur', ha', _, hh', _⟩
  · omega
  rintro rfl
  injection ha with ha; injection ha with ha1
  injection ha' with ha'; injection ha' with ha'1
  subst ha1; subst ha'1
  rw [hh] at hh'
  injection hh' with hh'
  injection hh' with _ h2 _
  exact hne h2

/-- a store into a row of bytes leaves a row of another type -/
theorem Own.setOther {w : World} {base base' : Nat} {e e' size size' : Nat} {a : Option Addr} {g n n' c c' : Nat} {xs ys : List Value} (h : Own w base e size a n c xs) (h' : Own w base' e' size' (some ⟨g, 0, none⟩) n' c' ys) (hc' : 0 < c') (hne : e ≠ e') (k : Nat) (u : Value) : Own (w.setCell ⟨g, k, none⟩ u) base e size a n c xs := by
  by_cases hc : 0 < c
  · obtain ⟨g2, rfl, _, _⟩ := h.block hc
    have hn := own_ne h h' hc hc' hne
    exact h.kept fun g3 e3 _ => Below.heap_setCell _ _ _ _ (by injection e3 with e3; injection e3 with e3; subst e3; exact hn)
  · refine ⟨h.1, .inl ?_⟩
    rcases h.2 with h0 | ⟨_, _, _, _, _, hn, _⟩
    · exact h0
    · exact ⟨by omega, by omega⟩

/-- the lists lie apart -/
def Distinct (L : List Sl) : Prop := ∀ i j (hi : i < L.length) (hj : j < L.length), i ≠ j → ∀ g, (L[i]).blk = some g → (L[j]).blk ≠ some g

theorem BOwn.grown {w w' : World} {base : Nat} {a : Option Addr} {n c : Nat} {l : List UInt8} (h : BOwn w base a n c l) (hg : w.grownBy w' none) : BOwn w' base a n c l :=
  Own.kept h fun g _ hl => hg.block g hl (by simp)
theorem BOwn.drewN {w : World} {base : Nat} {a : Option Addr} {n c : Nat} {l : List UInt8} (h : BOwn w base a n c l) (m : Nat) : BOwn (w.drewN m) base a n c l := h
theorem BOwn.mono {w : World} {base base' : Nat} {a : Option Addr} {n c : Nat} {l : List UInt8} (h : BOwn w base a n c l) (hb : base' ≤ base) : BOwn w base' a n c l := Own.mono h hb

/-- phase 1: the lists below k bear their marks, list k the first i of them -/
structure St1 (base : Nat) (als : Option Addr) (cls : Nat) (L : List Sl) (w : World) (k i : Nat) (wr : World) : Prop where
  outer : SOwn wr base als L.length cls L
  inner : ∀ j (hj : j < L.length), ∃ l, BOwn wr base (L[j]).a (L[j]).n (L[j]).c l ∧ (j < k → l = mkl j (L[j]).n) ∧ (j = k → l.take i = mkl k i)
  below : Below base w wr

theorem St1.drewN {base : Nat} {als : Option Addr} {cls : Nat} {L : List Sl} {w : World} {k i : Nat} {wr : World} (h : St1 base als cls L w k i wr) (n : Nat) : St1 base als cls L w k i (wr.drewN n) :=
  ⟨h.outer, h.inner, h.below.trans ⟨rfl, rfl, rfl, Nat.le_refl _, fun _ _ => rfl⟩⟩
theorem St1.drew {base : Nat} {als : Option Addr} {cls : Nat} {L : List Sl} {w : World} {k i : Nat} {wr : World} (h : St1 base als cls L w k i wr) : St1 base als cls L w k i wr.drew := h.drewN 1

theorem St1.next {base : Nat} {als : Option Addr} {cls : Nat} {L : List Sl} {w : World} {k i : Nat} {wr : World} (h : St1 base als cls L w k i wr) (hk : k < L.length) (hi : i = (L[k]).n) : St1 base als cls L w (k + 1) 0 wr := by
  refine ⟨h.outer, fun j hj => ?_, h.below⟩
  obtain ⟨l, ho, h1, h2⟩ := h.inner j hj
  refine ⟨l, ho, fun hjk => ?_, fun _ => by simp [mkl]⟩
  by_cases e : j = k
  · subst e
    have := h2 rfl
    rw [hi, List.take_of_length_le (by rw [ho.len]; omega)] at this
    exact this
  · exact h1 (by omega)

theorem take_set_succ {l : List UInt8} {i : Nat} (hi : i < l.length) (x : UInt8) : (l.set i x).take (i + 1) = l.take i ++ [x] := by
  rw [List.take_succ_eq_append_getElem (by simpa using hi), List.take_set_of_le (Nat.le_refl _)]
  simp

theorem St1.store {base : Nat} {als : Option Addr} {cls : Nat} {L : List Sl} {w : World} {k i : Nat} {wr : World} (h : St1 base als cls L w k i wr) (hd : Distinct L) (hk : k < L.length) (hi : i < (L[k]).n) :
    ∃ g, (L[k]).a = some ⟨g, 0, none⟩ ∧ (∃ u, wr.cell? ⟨g, i, none⟩ = some u) ∧ wr.frozen? ⟨g, i, none⟩ = false ∧ St1 base als cls L w k (i + 1) (wr.setCell ⟨g, i, none⟩ (.int .u8 ((mrk ((k : Int) + 1) (i : Int)).toNat : Int))) := by
  obtain ⟨l, ho, _, h2⟩ := h.inner k hk
  have hlen := ho.len
  obtain ⟨g, ha, hb, hlt, hc, hf⟩ := Own.cell ho i (by simp; omega)
  have hpos : 0 < (L[k]).c := by
    rcases ho.2 with ⟨h0, _⟩ | ⟨_, _, _, _, _, hn, _⟩ <;> omega
  have hblk : (L[k]).blk = some g := by simp [Sl.blk, Nat.ne_of_gt hpos, ha]
  refine ⟨g, ha, ⟨_, hc⟩, hf, ?_, fun j hj => ?_, h.below.trans ((Below.refl base wr).setCell (p := ⟨g, i, none⟩) hb _)⟩
  · exact Own.setOther h.outer (by rw [ha] at ho; exact ho) hpos (by decide) _ _
  · by_cases e : j = k
    · subst e
      refine ⟨l.set i (mrk ((j : Int) + 1) (i : Int)), ?_, fun hj' => by omega, fun _ => ?_⟩
      · rw [ha] at ho ⊢
        have := Own.set ho i (by simp; omega) (.int .u8 ((mrk ((j : Int) + 1) (i : Int)).toNat : Int))
        unfold BOwn
        rw [List.map_set]
        exact this
      · rw [take_set_succ (by omega), h2 rfl, mkl_succ]
    · obtain ⟨lj, hoj, h1j, _⟩ := h.inner j hj
      refine ⟨lj, ?_, h1j, fun e' => absurd e' e⟩
      refine hoj.kept' fun hcj g' hg' _ => Below.heap_setCell _ _ _ _ ?_
      rintro rfl
      exact hd j k hj hk e g' (by simp [Sl.blk, Nat.ne_of_gt hcj, hg']) hblk

/-- what is owned stays owned where another block is written -/
theorem Own.grownNe {w w' : World} {base : Nat} {e : TypeId} {size : Nat} {a : Option Addr} {n c : Nat} {xs : List Value} {row : Option Nat} (h : Own w base e size a n c xs) (hg : w.grownBy w' row) (hne : ∀ g, 0 < c → a = some ⟨g, 0, none⟩ → row ≠ some g) : Own w' base e size a n c xs :=
  h.kept' fun hc g ha hl => hg.block g hl (fun e => hne g hc ha e.symm)
theorem Own.grownNone {w w' : World} {base : Nat} {e : TypeId} {size : Nat} {a : Option Addr} {n c : Nat} {xs : List Value} (h : Own w base e size a n c xs) (hg : w.grownBy w' none) : Own w' base e size a n c xs :=
  h.grownNe hg (by simp)
/-- an append to a row of another type -/
theorem Own.grewOther {w w' : World} {base base' : Nat} {e e' size size' : Nat} {a a' a2 : Option Addr} {n n' c c' c2 : Nat} {xs ys : List Value} (h : Own w base e size a n c xs) (h' : Own w base' e' size' a' n' c' ys) (hg : GrewP w w' a' c' a2 c2) (hne : e ≠ e') : Own w' base e size a n c xs := by
  rcases hg with ⟨g, rfl, rfl, hc', _, hg⟩ | ⟨g, _, _, hg⟩
  · refine h.grownNe hg fun g' hc ha => ?_
    subst ha
    have := own_ne h h' hc hc' hne
    intro e; injection e with e; exact this e.symm
  · exact h.grownNone hg

theorem Sl.blk_some {s : Sl} {g : Nat} (hc : 0 < s.c) (ha : s.a = some ⟨g, 0, none⟩) : s.blk = some g := by
  simp [Sl.blk, Nat.ne_of_gt hc, ha]
theorem BOwn.blk {w : World} {base : Nat} {s : Sl} {l : List UInt8} (h : BOwn w base s.a s.n s.c l) {g : Nat} (hb : s.blk = some g) : 0 < s.c ∧ s.a = some ⟨g, 0, none⟩ := by
  unfold Sl.blk at hb
  split at hb
  · cases hb
  · rename_i hc
    obtain ⟨g', ha, _, _⟩ := Own.block h (by omega)
    rw [ha] at hb
    simp at hb
    subst hb
    exact ⟨by omega, ha⟩

/-- phase 2: to the copies below k the marks behind their lists have been appended -/
structure St2 (base : Nat) (als : Option Addr) (cls : Nat) (L : List Sl) (w : World) (B : Nat) (k : Nat) (ags : Option Addr) (cgs : Nat) (G : List Sl) (wr : World) : Prop where
  outer : SOwn wr base als L.length cls L
  gs : SOwn wr B ags k cgs G
  lists : ∀ j (hj : j < L.length), BOwn wr base (L[j]).a (L[j]).n (L[j]).c (mkl j (L[j]).n)
  done : ∀ j (hj : j < L.length) (hG : j < G.length), (G[j]).n = (L[j]).n + 70 ∧ BOwn wr base (G[j]).a (G[j]).n (G[j]).c (mkl j ((L[j]).n + 70)) ∧ ∀ g, (G[j]).blk = some g → (L[j]).blk = some g ∨ B ≤ g
  below : Below base w wr
  size : B ≤ wr.heap.size
  baseB : base ≤ B
  oldO : ∀ g, 0 < cls → als = some ⟨g, 0, none⟩ → g < B
  oldL : ∀ j (hj : j < L.length) g, (L[j]).blk = some g → g < B

theorem St2.start {base : Nat} {als : Option Addr} {cls : Nat} {L : List Sl} {w wr : World} (h : St1 base als cls L w L.length 0 wr) (hb : base ≤ w.heap.size) : St2 base als cls L w wr.heap.size 0 none 0 [] wr where
  outer := h.outer
  gs := Own.nil _ _ _ _ _
  lists := fun j hj => by
    obtain ⟨l, ho, h1, _⟩ := h.inner j hj
    rw [h1 hj] at ho
    exact ho
  done := fun j hj hG => absurd hG (by simp)
  below := h.below
  size := Nat.le_refl _
  baseB := Nat.le_trans hb h.below.size
  oldO := fun g hc ha => by
    obtain ⟨g', ha', _, hlt⟩ := Own.block h.outer hc
    rw [ha] at ha'
    injection ha' with ha'; injection ha' with ha'
    omega
  oldL := fun j hj g hg => by
    obtain ⟨l, ho, _, _⟩ := h.inner j hj
    obtain ⟨hc, ha⟩ := ho.blk hg
    obtain ⟨g', ha', _, hlt⟩ := Own.block ho hc
    rw [ha] at ha'
    injection ha' with ha'; injection ha' with ha'
    omega

/-- the inner loop of phase 2 -/
structure In2 (base : Nat) (L : List Sl) (k : Nat) (hk : k < L.length) (wk : World) (i : Nat) (a : Option Addr) (c : Nat) (wr : World) : Prop where
  row : BOwn wr base a ((L[k]).n + i) c (mkl k ((L[k]).n + i))
  frame : wk.grownBy wr (L[k]).blk
  place : ∀ g, 0 < c → a = some ⟨g, 0, none⟩ → (L[k]).blk = some g ∨ wk.heap.size ≤ g
  list : BOwn wr base (L[k]).a (L[k]).n (L[k]).c (mkl k (L[k]).n)

theorem In2.start {base : Nat} {als : Option Addr} {cls : Nat} {L : List Sl} {w : World} {B k : Nat} {ags : Option Addr} {cgs : Nat} {G : List Sl} {wr : World} (h : St2 base als cls L w B k ags cgs G wr) (hk : k < L.length) : In2 base L k hk wr 0 (L[k]).a (L[k]).c wr :=
  ⟨h.lists k hk, World.grownBy.refl _ _, fun g hc ha => .inl (Sl.blk_some hc ha), h.lists k hk⟩

theorem own_prefix {w w1 : World} {base : Nat} {e : TypeId} {g n n' c c' : Nat} {xs ys : List Value} (h : Own w base e 1 (some ⟨g, 0, none⟩) n c xs) (hc : 0 < c) (h1 : Own w1 base e 1 (some ⟨g, 0, none⟩) n' c' ys) (hcc : c' = c) (hx : ys.take n = xs) (hn : n ≤ n') : Own w1 base e 1 (some ⟨g, 0, none⟩) n c xs := by
  subst hcc
  refine ⟨h.1, .inr ?_⟩
  rcases h.2 with ⟨_, h0⟩ | ⟨g1, cur, ha, hb, hh, hnc, hm, hs, ht⟩
  · omega
  rcases h1.2 with ⟨_, h0⟩ | ⟨g2, cur2, ha2, hb2, hh2, hnc2, hm2, hs2, ht2⟩
  · omega
  refine ⟨g2, cur2, ha2, hb2, hh2, hnc, hm, hs2, ?_⟩
  rw [← hx, ← ht2, List.take_take]
  congr 1
  omega

theorem own_cap {w : World} {base base' : Nat} {e : TypeId} {g n n' c c' : Nat} {xs ys : List Value} (h : Own w base e 1 (some ⟨g, 0, none⟩) n c xs) (h' : Own w base' e 1 (some ⟨g, 0, none⟩) n' c' ys) (hc : 0 < c) (hc' : 0 < c') : c = c' := by
  rcases h.2 with ⟨_, h0⟩ | ⟨g1, cur, ha, hb, hh, hnc, hm, hs, ht⟩
  · omega
  rcases h'.2 with ⟨_, h0⟩ | ⟨g2, cur2, ha2, hb2, hh2, hnc2, hm2, hs2, ht2⟩
  · omega
  injection ha with ha; injection ha with ha
  injection ha2 with ha2; injection ha2 with ha2
  subst ha; subst ha2
  rw [hh] at hh2
  injection hh2 with hh2
  injection hh2 with h1 _ _
  subst h1
  omega

theorem In2.next {base : Nat} {L : List Sl} {k : Nat} {hk : k < L.length} {wk : World} {i : Nat} {a : Option Addr} {c : Nat} {wr : World} (h : In2 base L k hk wk i a c wr) {g c' : Nat} {w1 : World}
    (ho : Own w1 base 5 1 (some ⟨g, 0, none⟩) ((L[k]).n + i + 1) c' ((mkl k ((L[k]).n + i)).map bval ++ [.int .u8 ((mrk ((k : Int) + 1) (((L[k]).n : Int) + (i : Int))).toNat : Int)])) (hg : GrewP wr w1 a c (some ⟨g, 0, none⟩) c') : In2 base L k hk wk (i + 1) (some ⟨g, 0, none⟩) c' w1 := by
  have hrow : BOwn w1 base (some ⟨g, 0, none⟩) ((L[k]).n + (i + 1)) c' (mkl k ((L[k]).n + (i + 1))) := by
    unfold BOwn
    rw [← Nat.add_assoc, mkl_succ, List.map_append]
    have e : (((L[k]).n + i : Nat) : Int) = ((L[k]).n : Int) + (i : Int) := by omega
    rw [e]
    exact ho
  rcases hg with ⟨g1, e1, rfl, hc, hcc, hg⟩ | ⟨g1, e1, hs, hg⟩
  · injection e1 with e1; injection e1 with e1
    subst e1
    have hpl := h.place g hc rfl
    refine ⟨hrow, ?_, fun g2 _ e2 => ?_, ?_⟩
    · rcases hpl with hb | hb
      · rw [hb]; exact grownBy_trans (by have := h.frame; rwa [hb] at this) hg
      · exact ⟨hg.os.trans h.frame.os, hg.tape.trans h.frame.tape, hg.output.trans h.frame.output, Nat.le_trans h.frame.size hg.size, fun b hb1 hb2 => (hg.block b (Nat.lt_of_lt_of_le hb1 h.frame.size) (by simp; omega)).trans (h.frame.block b hb1 hb2)⟩
    · injection e2 with e2; injection e2 with e2
      subst e2
      exact hpl
    · by_cases hb : (L[k]).blk = some g
      · obtain ⟨hc2, ha2⟩ := h.list.blk hb
        have hl := h.list
        rw [ha2] at hl ⊢
        have hcap := own_cap h.row hl hc hc2
        refine own_prefix hl hc2 hrow (by omega) ?_ (by omega)
        rw [← List.map_take, mkl_take _ _ _ (by omega)]
      · refine Own.grownNe h.list hg fun g2 hc2 ha2 e2 => ?_
        injection e2 with e2
        subst e2
        exact hb (Sl.blk_some hc2 ha2)
  · injection e1 with e1; injection e1 with e1
    subst e1
    refine ⟨hrow, grownBy_trans h.frame (grownBy_some hg _), fun g2 _ e2 => ?_, Own.grownNone h.list hg⟩
    injection e2 with e2; injection e2 with e2
    subst e2
    exact .inr (Nat.le_trans h.frame.size hs)

theorem St2.outerIn {base : Nat} {als : Option Addr} {cls : Nat} {L : List Sl} {w : World} {B k : Nat} {ags : Option Addr} {cgs : Nat} {G : List Sl} {wk wr : World} (h : St2 base als cls L w B k ags cgs G wk) (hk : k < L.length) (hf : wk.grownBy wr (L[k]).blk) : SOwn wr base als L.length cls L := by
  refine Own.grownNe h.outer hf fun g1 hc1 ha1 hb1 => ?_
  obtain ⟨hc2, ha2⟩ := (h.lists k hk).blk hb1
  have h3 := h.outer
  have h4 := h.lists k hk
  rw [ha1] at h3
  rw [ha2] at h4
  exact own_ne h3 h4 hc1 hc2 (by decide) rfl

/-- the copy is laid among the others -/
theorem St2.next {base : Nat} {als : Option Addr} {cls : Nat} {L : List Sl} {w : World} {B k : Nat} {ags : Option Addr} {cgs : Nat} {G : List Sl} {wk wr w1 : World} (h : St2 base als cls L w B k ags cgs G wk) (hk : k < L.length) (hd : Distinct L) {a : Option Addr} {c : Nat} (h2 : In2 base L k hk wk 70 a c wr)
    {g cg : Nat} (ho : Own w1 B 22 1 (some ⟨g, 0, none⟩) (k + 1) cg (G.map Sl.val ++ [.slice a ((L[k]).n + 70) c])) (hg : GrewP wr w1 ags cgs (some ⟨g, 0, none⟩) cg) : St2 base als cls L w B (k + 1) (some ⟨g, 0, none⟩) cg (G ++ [⟨a, (L[k]).n + 70, c⟩]) w1 := by
  have hGl : G.length = k := h.gs.len
  have gs' : SOwn wr B ags k cgs G := by
    refine Own.grownNe h.gs h2.frame fun g1 hc1 ha1 hb1 => ?_
    obtain ⟨hc2, ha2⟩ := (h.lists k hk).blk hb1
    have h3 := h.gs
    have h4 := h.lists k hk
    rw [ha1] at h3
    rw [ha2] at h4
    exact own_ne h3 h4 hc1 hc2 (by decide) rfl
  have lists' : ∀ j (hj : j < L.length), BOwn wr base (L[j]).a (L[j]).n (L[j]).c (mkl j (L[j]).n) := by
    intro j hj
    by_cases e : j = k
    · subst e; exact h2.list
    · exact Own.grownNe (h.lists j hj) h2.frame fun g1 hc1 ha1 hb1 => hd j k hj hk e g1 (Sl.blk_some hc1 ha1) hb1
  refine ⟨?_, by unfold SOwn; rw [List.map_append]; exact ho, fun j hj => Own.grewOther (lists' j hj) gs' hg (by decide), fun j hj hG => ?_, ?_, ?_, h.baseB, h.oldO, h.oldL⟩
  · have o1 := h.outerIn hk h2.frame
    rcases hg with ⟨g1, e1, rfl, hc, hcc, hg⟩ | ⟨g1, e1, hs, hg⟩
    · refine Own.grownNe o1 hg fun g2 hc2 ha2 e2 => ?_
      injection e2 with e2
      subst e2
      have := h.oldO _ hc2 ha2
      obtain ⟨g3, e3, hb3, _⟩ := Own.block gs' hc
      rw [e1] at e3
      injection e3 with e3; injection e3 with e3
      omega
    · exact Own.grownNone o1 hg
  · by_cases e : j = k
    · subst e
      have eG : (G ++ [(⟨a, (L[j]).n + 70, c⟩ : Sl)])[j] = ⟨a, (L[j]).n + 70, c⟩ := by
        rw [List.getElem_append_right (by omega)]; simp [hGl]
      rw [eG]
      refine ⟨rfl, Own.grewOther h2.row gs' hg (by decide), fun g1 hb1 => ?_⟩
      have hb2 : c ≠ 0 ∧ ∃ x, a = some x ∧ x.block = g1 := by
        simp only [Sl.blk] at hb1
        split at hb1
        · cases hb1
        · rename_i hc
          exact ⟨hc, by simpa [Option.map_eq_some_iff] using hb1⟩
      obtain ⟨hc, x, rfl, rfl⟩ := hb2
      obtain ⟨g3, e3, _, _⟩ := Own.block h2.row (by omega)
      injection e3 with e3
      subst e3
      rcases h2.place g3 (by omega) rfl with hp | hp
      · exact .inl hp
      · exact .inr (Nat.le_trans h.size hp)
    · have hjk : j < k := by simp at hG; omega
      have eG : (G ++ [(⟨a, (L[k]).n + 70, c⟩ : Sl)])[j] = G[j]'(by omega) := List.getElem_append_left (by omega)
      rw [eG]
      obtain ⟨e1, e2, e3⟩ := h.done j hj (by omega)
      refine ⟨e1, Own.grewOther (Own.grownNe e2 h2.frame fun g1 hc1 ha1 hb1 => ?_) gs' hg (by decide), e3⟩
      rcases e3 g1 (Sl.blk_some hc1 ha1) with h5 | h5
      · exact hd j k hj hk e g1 h5 hb1
      · have := h.oldL k hk g1 hb1
        omega
  · have f1 : Below base wk wr := by
      refine ⟨h2.frame.os, h2.frame.tape, h2.frame.output, h2.frame.size, fun b hb => h2.frame.block b (by have := h.size; have := h.baseB; omega) fun e => ?_⟩
      obtain ⟨hc2, ha2⟩ := (h.lists k hk).blk e.symm
      obtain ⟨g3, e3, hb3, _⟩ := Own.block (h.lists k hk) hc2
      rw [ha2] at e3
      injection e3 with e3; injection e3 with e3
      omega
    refine h.below.trans (f1.trans ?_)
    rcases hg with ⟨g1, e1, rfl, hc, hcc, hg⟩ | ⟨g1, e1, hs, hg⟩
    · obtain ⟨g3, e3, hb3, _⟩ := Own.block gs' hc
      rw [e1] at e3
      injection e3 with e3; injection e3 with e3
      exact (Below.refl base wr).grown hg (by have := h.size; have := h.baseB; have := h2.frame.size; omega) (by rintro b ⟨⟩; have := h.baseB; omega)
    · exact (Below.refl base wr).grown hg (by have := h.size; have := h.baseB; have := h2.frame.size; omega) (by simp)
  · have := h.size
    have := h2.frame.size
    have := hg.grew.size
    omega

/-- phase 3: what is looked at -/
theorem St2.look {base : Nat} {als : Option Addr} {cls : Nat} {L : List Sl} {w : World} {B : Nat} {ags : Option Addr} {cgs : Nat} {G : List Sl} {wr : World} (h : St2 base als cls L w B L.length ags cgs G wr) (k : Nat) (hk : k < L.length) :
    ∃ gl gg h c, als = some ⟨gl, 0, none⟩ ∧ ags = some ⟨gg, 0, none⟩ ∧ wr.cell? ⟨gl, k, none⟩ = some (.slice (L[k]).a (L[k]).n (L[k]).c) ∧ wr.cell? ⟨gg, k, none⟩ = some (.slice (some ⟨h, 0, none⟩) ((L[k]).n + 70) c) ∧
      (∀ i, i < (L[k]).n + 70 → wr.cell? ⟨h, i, none⟩ = some (.int .u8 ((mrk ((k : Int) + 1) (i : Int)).toNat : Int))) ∧
      (∀ i, i < (L[k]).n → ∃ g, (L[k]).a = some ⟨g, 0, none⟩ ∧ wr.cell? ⟨g, i, none⟩ = some (.int .u8 ((mrk ((k : Int) + 1) (i : Int)).toNat : Int))) := by
  obtain ⟨gl, e1, _, _, c1, _⟩ := Own.cell h.outer k (by simpa using hk)
  obtain ⟨gg, e2, _, _, c2, _⟩ := Own.cell h.gs k (by simpa [h.gs.len] using hk)
  have hG : k < G.length := by rw [h.gs.len]; exact hk
  obtain ⟨d1, d2, _⟩ := h.done k hk hG
  obtain ⟨hh, e3, _, _, _, _⟩ := Own.cell d2 0 (by simp [mkl_length])
  refine ⟨gl, gg, hh, (G[k]).c, e1, e2, by rw [c1]; simp [Sl.val], by rw [c2]; simp [Sl.val, e3, d1], fun i hi => ?_, fun i hi => ?_⟩
  · obtain ⟨h', e4, _, _, c4, _⟩ := Own.cell d2 i (by simp [mkl_length]; omega)
    rw [e3] at e4
    injection e4 with e4; injection e4 with e4
    subst e4
    rw [c4]
    simp [bval, mkl]
  · obtain ⟨g, e4, _, _, c4, _⟩ := Own.cell (h.lists k hk) i (by simp [mkl_length]; omega)
    exact ⟨g, e4, by rw [c4]; simp [bval, mkl]⟩

end Go.Proofs.Ythemlaibjchjpaa
