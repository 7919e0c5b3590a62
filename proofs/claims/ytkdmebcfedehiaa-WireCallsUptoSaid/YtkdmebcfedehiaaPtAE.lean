/- Helpers and contracts of the proofs over this seat: KitInts, ApartI, ApartW, Apart2, ApartT, AppS, Book, WireRefB, AppB, BigApp, Acc. Each states what a function of the program answers, or is plain Lean; its conditions stand in each statement. -/
import Derived.Laws.MakeOwn
import Derived.Test.YtkdmebcfedehiaaPtAA
import Derived.Test.YtkdmebcfedehiaaPtAB
import Derived.Test.YtkdmebcfedehiaaPtAC
set_option linter.unusedVariables false
/- strongroomkit.LentInts, KeptInts, OverInts. Printed by gens/kitints.py. -/
namespace Go.Proofs.Ytkdmebcfedehiaa.Ints
open Go.RowKit

/-- the mark of place i of list k -/
def mrk (k i : Int) : Int := 1000003 * (k + 1) + i
set_option maxHeartbeats 400000 in
theorem mark_any (k i : Int) (w : World) (hk : 0 ≤ k ∧ k ≤ 1000000000) (hi : 0 ≤ i ∧ i ≤ 1000000000000) :
    Calls Try.prog 47 #[.int .i64 k, .int .i64 i] w fun e w' => e = .returned (.int .i64 (mrk k i)) ∧ w = w' := by
  obtain ⟨k1, k2⟩ := hk
  obtain ⟨i1, i2⟩ := hi
  unfold mrk
  go_enter Try.func47, Try.ntmps47
  go_wp2
  go_ret
  exact ⟨rfl, rfl⟩
def bval (x : Int) : Value := .int .i64 x
/-- from the address a on these numbers lie -/
def ILies (w : World) (a : Option Addr) (l : List Int) : Prop :=
  ∀ (k : Nat) (h : k < l.length), ∃ b off, a = some ⟨b, off, none⟩ ∧ w.cell? ⟨b, off + k, none⟩ = some (.int .i64 (l[k]))
theorem ILies.grown {w w' : World} {a : Option Addr} {l : List Int} (h : ILies w a l) (hg : w.grownBy w' none) : ILies w' a l := by
  intro k hk
  obtain ⟨b, off, e, hc⟩ := h k hk
  exact ⟨b, off, e, (World.cell?_of_block (hg.block b (World.block_lt_of_cell? w _ hc) (by simp))).trans hc⟩
theorem ILies.of {w : World} {a : Option Addr} {l : List Int} (h : Lies w a (IV l)) : ILies w a l := by
  intro k hk
  obtain ⟨b, off, e, hc⟩ := h k (by simpa [IV] using hk)
  exact ⟨b, off, e, by rw [hc]; simp [IV]⟩
theorem ILies.lies {w : World} {a : Option Addr} {l : List Int} (h : ILies w a l) : Lies w a (IV l) := by
  intro k hk
  obtain ⟨b, off, e, hc⟩ := h k (by simpa [IV] using hk)
  exact ⟨b, off, e, by rw [hc]; simp [IV]⟩
theorem same_any (a a' : Option Addr) (c c' : Nat) (la lb : List Int) (w : World) (ha : ILies w a la) (hb : ILies w a' lb) (hn : la.length ≤ maxLen) :
    Calls Try.prog 18 #[.slice a la.length c, .slice a' lb.length c'] w fun e w' => e = .returned (.bool (decide (la = lb))) ∧ ∃ n, w' = w.drewN n :=
  sameInts_any a a' c c' la lb w ha.lies hb.lies hn


/-- what LentInts gives of a list: the list, and the marks behind it -/
def marks (n m : Nat) : List Int := (List.range m).map fun (i : Nat) => mrk 0 ((n : Int) + (i : Int))
def lent (l : List Int) : List Int := l ++ marks l.length 70
theorem marks_succ (n m : Nat) : marks n (m + 1) = marks n m ++ [mrk 0 ((n : Int) + (m : Int))] := by simp [marks, List.range_succ]
theorem marks_length (n m : Nat) : (marks n m).length = m := by simp [marks]
theorem lent_length (l : List Int) : (lent l).length = l.length + 70 := by simp [lent, marks_length]

/-- bytes that are owned -/
def IOw (w : World) (base : Nat) (a : Option Addr) (n c : Nat) (l : List Int) : Prop := Own w base 3 1 a n c (l.map bval)

theorem IOw.len {w : World} {base : Nat} {a : Option Addr} {n c : Nat} {l : List Int} (h : IOw w base a n c l) : l.length = n := by
  have := h.1; simpa using this

theorem IOw.cap {w : World} {base : Nat} {a : Option Addr} {n c : Nat} {l : List Int} (h : IOw w base a n c l) : n ≤ c ∧ c ≤ maxLen := Own.cap h

theorem IOw.lies {w : World} {base : Nat} {a : Option Addr} {n c : Nat} {l : List Int} (h : IOw w base a n c l) : ILies w a l := by
  intro k hk
  obtain ⟨g, e, _, _, hc, _⟩ := Own.cell h k (by simpa using hk)
  exact ⟨g, 0, e, by rw [Nat.zero_add, hc]; simp [bval]⟩

theorem ILies.news {w : World} {b off : Nat} {l : List Int} (h : ILies w (some ⟨b, off, none⟩) l) : ∀ j u, (l.map bval)[j]? = some u → w.cell? ((⟨b, off, none⟩ : Addr).add j) = some u := by
  intro j u hu
  obtain ⟨hj, rfl⟩ := List.getElem?_eq_some_iff.1 hu
  obtain ⟨b', off', e, hc⟩ := h j (by simpa using hj)
  injection e with e; injection e with e1 e2
  subst e1; subst e2
  rw [Addr.add_lit, hc]
  simp [bval]
theorem ILies.addr {w : World} {a : Option Addr} {l : List Int} (h : ILies w a l) (hl : 0 < l.length) : ∃ b off, a = some ⟨b, off, none⟩ := by
  obtain ⟨b, off, e, _⟩ := h 0 hl
  exact ⟨b, off, e⟩
theorem bval_one (l : List Int) : ∀ u ∈ l.map bval, u.oneCell' = true := by
  intro u hu
  obtain ⟨x, _, rfl⟩ := List.mem_map.1 hu
  rfl

theorem map_take_succ {l : List Int} {k : Nat} (h : k < l.length) : (l.take (k + 1)).map bval = (l.take k).map bval ++ [.int .i64 (l[k])] := by
  rw [List.take_succ_eq_append_getElem h, List.map_append]; rfl

set_option maxRecDepth 100000 in
set_option maxHeartbeats 1000000 in
theorem lent_any (a : Option Addr) (c : Nat) (l : List Int) (w : World) (ha : ILies w a l) (hn : l.length ≤ 1000000000) :
    Calls Try.prog 35 #[.slice a l.length c] w fun e w' => ∃ g cap, e = .returned (.slice (some ⟨g, 0, none⟩) (l.length + 70) cap) ∧ IOw w' w.heap.size (some ⟨g, 0, none⟩) (l.length + 70) cap (lent l) ∧ w.grownBy w' none := by
  have HA : Hid (ILies w a l) := ha
  clear ha
  go_enter Try.func35, Try.ntmps35
  go_wp2
  go_loopw [3, 4] (fun v i wr => ∃ (k : Nat) (a' : Option Addr) (c' : Nat), k ≤ l.length ∧ i = .int .i64 k ∧ v = .slice a' k c' ∧ IOw wr w.heap.size a' k c' (l.take k) ∧ w.grownBy wr none) (fun _ i _ => l.length - (intOf i).toNat)
  case atStart => exact ⟨0, none, 0, by omega, rfl, rfl, Own.nil _ _ _ _ _, World.grownBy.refl _ _⟩
  case round =>
    obtain ⟨k, a', c', hk, rfl, rfl, hown, hg⟩ := hrel
    by_cases hlt : k < l.length
    · obtain ⟨b, off, rfl, hc⟩ := HA.out k hlt
      have hc' : wr.cell? ⟨b, off + k, none⟩ = some (.int .i64 (l[k])) := hg.cell hc (by simp)
      have hsz := hg.size
      go_wp2_with (at_builtin; refine wpList_push elI rfl (.tmp 12) (.tmp 17) rfl rfl hown (.int .i64 (l[k])) rfl rfl (by unfold maxLen; omega) (by omega) hsz ?_; intro g cap w1 hown1 hgr)
      go_roundw
      case rel => exact ⟨k + 1, _, _, by omega, by go_num, rfl, by unfold IOw; rw [map_take_succ hlt]; exact hown1, hgr.grew.grown hown hg (Nat.le_refl _)⟩
      case measure => simp [intOf]; omega
    · obtain rfl : k = l.length := by omega
      go_wp2
      go_loopw [3, 5] (fun v i wr => ∃ (k : Nat) (a' : Option Addr) (c' : Nat), k ≤ 70 ∧ i = .int .i64 k ∧ v = .slice a' (l.length + k) c' ∧ IOw wr w.heap.size a' (l.length + k) c' (l ++ marks l.length k) ∧ w.grownBy wr none) (fun _ i _ => 70 - (intOf i).toNat)
      case atStart => exact ⟨0, _, _, by omega, rfl, rfl, by simpa [marks] using hown, hg⟩
      case round =>
        obtain ⟨k, a', c', hk, rfl, rfl, hown, hg⟩ := hrel
        have hsz := hg.size
        by_cases hlt : k < 70
        · go_wp2_with (first | (go_at_call 47; refine (mark_any _ _ _ (by omega) (by omega)).mono ?_; rintro e w' ⟨rfl, rfl⟩) | (at_builtin; refine wpList_push elI rfl (.tmp 23) (.tmp 29) rfl rfl hown (.int .i64 (mrk 0 ((l.length : Int) + (k : Int)))) rfl rfl (by unfold maxLen; omega) (by omega) hsz ?_; intro g cap w1 hown1 hgr))
          go_roundw
          case rel => exact ⟨k + 1, _, _, by omega, by go_num, rfl, by unfold IOw; rw [marks_succ, ← List.append_assoc, List.map_append]; exact hown1, hgr.grew.grown hown hg (Nat.le_refl _)⟩
          case measure => simp [intOf]; omega
        · obtain rfl : k = 70 := by omega
          go_wp2
          go_ret
          obtain ⟨g, rfl, _⟩ := hown.block (by have := hown.2; omega)
          exact ⟨g, c', rfl, hown, hg⟩

theorem lent_n (a : Option Addr) (c n : Nat) (l : List Int) (w : World) (ha : ILies w a l) (hl : l.length = n) (hn : n ≤ 1000000000) :
    Calls Try.prog 35 #[.slice a n c] w fun e w' => ∃ g cap, e = .returned (.slice (some ⟨g, 0, none⟩) (n + 70) cap) ∧ IOw w' w.heap.size (some ⟨g, 0, none⟩) (n + 70) cap (lent l) ∧ w.grownBy w' none := by
  subst hl
  exact lent_any a c l w ha hn

theorem lent_take (l : List Int) (n : Nat) (h : l.length = n) : (lent l).take n = l := by
  subst h; simp [lent]



set_option maxRecDepth 100000 in
set_option maxHeartbeats 1000000 in
theorem kept_any (a a' : Option Addr) (c c' : Nat) (lf l : List Int) (w : World) (hf : ILies w a lf) (hl : ILies w a' l) (hn : l.length ≤ 1000000000) (hm : lf.length ≤ maxLen) :
    Calls Try.prog 43 #[.slice a lf.length c, .slice a' l.length c'] w fun e w' => e = .returned (.bool (decide (lf = lent l))) ∧ w.grownBy w' none := by
  have HF : Hid (ILies w a lf) := hf
  have HL : Hid (ILies w a' l) := hl
  have e70 : l.length + 70 = (lent l).length := (lent_length l).symm
  have HE : Hid (l.length + 70 = (lent l).length) := e70
  clear hf hl e70
  go_enter Try.func43, Try.ntmps43
  go_wp2_with fail
  refine (lent_any _ _ _ _ HL.out hn).mono ?_
  rintro e w1 ⟨g, cap, rfl, hown, hg⟩
  go_wp2_with fail
  rw [HE.out]
  refine (same_any _ _ _ _ _ _ _ (HF.out.grown hg) hown.lies hm).mono ?_
  rintro e w2 ⟨rfl, n, rfl⟩
  go_wp2_with fail
  go_ret
  exact ⟨rfl, grownBy_trans hg (grownBy_drewN _ _ _)⟩

/-- what OverInts leaves -/
def over (n : Nat) : List Int := (List.range n).map fun (i : Nat) => mrk 7 ((i : Int) + 3)
theorem over_succ (n : Nat) : over (n + 1) = over n ++ [mrk 7 ((n : Int) + 3)] := by simp [over, List.range_succ]
theorem over_length (n : Nat) : (over n).length = n := by simp [over]

theorem over_step {k : Nat} {l : List Int} (h : k < l.length) : ((over k ++ l.drop k).map bval).set k (.int .i64 (mrk 7 ((k : Int) + 3))) = (over (k + 1) ++ l.drop (k + 1)).map bval := by
  have e1 : l.drop k = l[k] :: l.drop (k + 1) := by simp
  rw [e1, over_succ, List.map_append, List.map_cons, List.set_append_right _ _ (by simp [over_length])]
  simp [over_length, bval]

set_option maxRecDepth 100000 in
set_option maxHeartbeats 1000000 in
theorem over_any (base g c : Nat) (l : List Int) (w : World) (ho : IOw w base (some ⟨g, 0, none⟩) l.length c l) (hn : l.length ≤ 1000000100) :
    Calls Try.prog 45 #[.slice (some ⟨g, 0, none⟩) l.length c] w fun e w' => e = .returned (.tuple #[]) ∧ IOw w' base (some ⟨g, 0, none⟩) l.length c (over l.length) ∧ w.grownBy w' (some g) := by
  go_enter Try.func45, Try.ntmps45
  go_wp2
  go_loopw [2] (fun i wr => ∃ k : Nat, k ≤ l.length ∧ i = .int .i64 k ∧ IOw wr base (some ⟨g, 0, none⟩) l.length c (over k ++ l.drop k) ∧ w.grownBy wr (some g)) (fun i _ => l.length - (intOf i).toNat)
  case atStart => exact ⟨0, by omega, rfl, by simpa [over] using ho, World.grownBy.refl _ _⟩
  case round =>
    obtain ⟨k, hk, rfl, hown, hg⟩ := hrel
    by_cases hlt : k < l.length
    · obtain ⟨g', e1, _, _, hc, hf⟩ := Own.cell hown k (by simp [over_length]; omega)
      obtain rfl : g = g' := by simpa using e1
      clear e1
      have hset := Own.set hown k (by simp [over_length]; omega) (.int .i64 (mrk 7 ((k : Int) + 3)))
      rw [over_step hlt] at hset
      obtain ⟨u0, hu0⟩ : ∃ u0, wr.cell? ⟨g, k, none⟩ = some u0 := ⟨_, hc⟩
      clear hc
      go_wp2_with (go_at_call 47; refine (mark_any _ _ _ (by omega) (by omega)).mono ?_; rintro e w' ⟨rfl, rfl⟩)
      go_roundw
      case rel => exact ⟨k + 1, by omega, by go_num, hset, grownBy_trans hg (grownBy_setCell _ _ _ _)⟩
      case measure => simp [intOf]; omega
    · obtain rfl : k = l.length := by omega
      go_wp2
      go_end0
      exact ⟨rfl, by simpa using hown, hg⟩

/-- what LentInts answered is as it was -/
theorem kept_yes (a a' : Option Addr) (c c' n m : Nat) (l : List Int) (w : World) (hf : ILies w a (lent l)) (hl : ILies w a' l) (hn : l.length = n) (hm : n + 70 = m) (hle : n ≤ 1000000000) :
    Calls Try.prog 43 #[.slice a m c, .slice a' n c'] w fun e w' => e = .returned (.bool true) ∧ w.grownBy w' none := by
  subst hn; subst hm
  rw [← lent_length]
  exact (kept_any a a' c c' (lent l) l w hf hl hle (by rw [lent_length]; unfold maxLen; omega)).mono fun e w' ⟨h1, h2⟩ => ⟨by rw [h1]; simp, h2⟩
theorem over_n (base g c n : Nat) (l : List Int) (w : World) (ho : IOw w base (some ⟨g, 0, none⟩) n c l) (hn : n ≤ 1000000100) :
    Calls Try.prog 45 #[.slice (some ⟨g, 0, none⟩) n c] w fun e w' => e = .returned (.tuple #[]) ∧ IOw w' base (some ⟨g, 0, none⟩) n c (over n) ∧ w.grownBy w' (some g) := by
  obtain rfl := ho.len
  exact over_any base g c l w ho hn

end Go.Proofs.Ytkdmebcfedehiaa.Ints
/- strongroomkit.ApartInts. Printed by gens/kitints.py. -/
namespace Go.Proofs.Ytkdmebcfedehiaa.Ints
open Go.RowKit

/-- the marks of list k -/
def mkl (k n : Nat) : List Int := (List.range n).map fun (i : Nat) => mrk ((k : Int) + 1) (i : Int)
theorem mkl_succ (k n : Nat) : mkl k (n + 1) = mkl k n ++ [mrk ((k : Int) + 1) (n : Int)] := by simp [mkl, List.range_succ]
theorem mkl_length (k n : Nat) : (mkl k n).length = n := by simp [mkl]
theorem mkl_take (k n m : Nat) (h : m ≤ n) : (mkl k n).take m = mkl k m := by
  simp [mkl, ← List.map_take, List.take_range, Nat.min_eq_left h]
/-- a slice of slices of bytes that the call owns -/
def SOwn (w : World) (base : Nat) (a : Option Addr) (n c : Nat) (L : List Sl) : Prop := Own w base 23 1 a n c (L.map Sl.val)

theorem SOwn.len {w : World} {base : Nat} {a : Option Addr} {n c : Nat} {L : List Sl} (h : SOwn w base a n c L) : L.length = n := by
  have := h.1; simpa using this

theorem elSI : El Try.prog 53 23 (.slice none 0 0) 1 24 :=
  ⟨Try.underlying53, info_parts (by kernel_rfl), rfl, by decide⟩

theorem IOw.grown {w w' : World} {base : Nat} {a : Option Addr} {n c : Nat} {l : List Int} (h : IOw w base a n c l) (hg : w.grownBy w' none) : IOw w' base a n c l :=
  Own.kept h fun g _ hl => hg.block g hl (by simp)
theorem IOw.drewN {w : World} {base : Nat} {a : Option Addr} {n c : Nat} {l : List Int} (h : IOw w base a n c l) (m : Nat) : IOw (w.drewN m) base a n c l := h
theorem IOw.mono {w : World} {base base' : Nat} {a : Option Addr} {n c : Nat} {l : List Int} (h : IOw w base a n c l) (hb : base' ≤ base) : IOw w base' a n c l := Own.mono h hb

/-- phase 1: the lists below k bear their marks, list k the first i of them -/
structure St1 (base : Nat) (als : Option Addr) (cls : Nat) (L : List Sl) (w : World) (k i : Nat) (wr : World) : Prop where
  outer : SOwn wr base als L.length cls L
  inner : ∀ j (hj : j < L.length), ∃ l, IOw wr base (L[j]).a (L[j]).n (L[j]).c l ∧ (j < k → l = mkl j (L[j]).n) ∧ (j = k → l.take i = mkl k i)
  below : Below base w wr

theorem St1.drewN {base : Nat} {als : Option Addr} {cls : Nat} {L : List Sl} {w : World} {k i : Nat} {wr : World} (h : St1 base als cls L w k i wr) (n : Nat) : St1 base als cls L w k i (wr.drewN n) :=
  ⟨h.outer, h.inner, h.below.trans ⟨rfl, rfl, rfl, Nat.le_refl _, fun _ _ => rfl⟩⟩
theorem St1.drew {base : Nat} {als : Option Addr} {cls : Nat} {L : List Sl} {w : World} {k i : Nat} {wr : World} (h : St1 base als cls L w k i wr) : St1 base als cls L w k i wr.drew := h.drewN 1

theorem St1.next {base : Nat} {als : Option Addr} {cls : Nat} {L : List Sl} {w : World} {k i : Nat} {wr : World} (h : St1 base als cls L w k i wr) (hk : k < L.length) (hi : i = (L[k]).n) : St1 base als cls L w (k + 1) 0 wr := by
  refine ⟨h.outer, fun j hj => ?_, h.below⟩
  obtain ⟨l, ho, h1, h2⟩ := h.inner j hj
  refine ⟨l, ho, fun hjk => ?_, fun _ => by simp [mkl]⟩
  by_cases e : j = k
  · subst e
    have := h2 rfl
    rw [hi, List.take_of_length_le (by rw [ho.len]; omega)] at this
    exact this
  · exact h1 (by omega)

theorem take_set_succ {l : List Int} {i : Nat} (hi : i < l.length) (x : Int) : (l.set i x).take (i + 1) = l.take i ++ [x] := by
  rw [List.take_succ_eq_append_getElem (by simpa using hi), List.take_set_of_le (Nat.le_refl _)]
  simp

theorem St1.store {base : Nat} {als : Option Addr} {cls : Nat} {L : List Sl} {w : World} {k i : Nat} {wr : World} (h : St1 base als cls L w k i wr) (hd : Distinct L) (hk : k < L.length) (hi : i < (L[k]).n) :
    ∃ g, (L[k]).a = some ⟨g, 0, none⟩ ∧ (∃ u, wr.cell? ⟨g, i, none⟩ = some u) ∧ wr.frozen? ⟨g, i, none⟩ = false ∧ St1 base als cls L w k (i + 1) (wr.setCell ⟨g, i, none⟩ (.int .i64 (mrk ((k : Int) + 1) (i : Int)))) := by
  obtain ⟨l, ho, _, h2⟩ := h.inner k hk
  have hlen := ho.len
  obtain ⟨g, ha, hb, hlt, hc, hf⟩ := Own.cell ho i (by simp; omega)
  have hpos : 0 < (L[k]).c := by
    rcases ho.2 with ⟨h0, _⟩ | ⟨_, _, _, _, _, hn, _⟩ <;> omega
  have hblk : (L[k]).blk = some g := by simp [Sl.blk, Nat.ne_of_gt hpos, ha]
  refine ⟨g, ha, ⟨_, hc⟩, hf, ?_, fun j hj => ?_, h.below.trans ((Below.refl base wr).setCell (p := ⟨g, i, none⟩) hb _)⟩
  · exact Own.setOther h.outer (by rw [ha] at ho; exact ho) hpos (by decide) _ _
  · by_cases e : j = k
    · subst e
      refine ⟨l.set i (mrk ((j : Int) + 1) (i : Int)), ?_, fun hj' => by omega, fun _ => ?_⟩
      · rw [ha] at ho ⊢
        have := Own.set ho i (by simp; omega) (.int .i64 (mrk ((j : Int) + 1) (i : Int)))
        unfold IOw
        rw [List.map_set]
        exact this
      · rw [take_set_succ (by omega), h2 rfl, mkl_succ]
    · obtain ⟨lj, hoj, h1j, _⟩ := h.inner j hj
      refine ⟨lj, ?_, h1j, fun e' => absurd e' e⟩
      refine hoj.kept' fun hcj g' hg' _ => Below.heap_setCell _ _ _ _ ?_
      rintro rfl
      exact hd j k hj hk e g' (by simp [Sl.blk, Nat.ne_of_gt hcj, hg']) hblk

theorem IOw.blk {w : World} {base : Nat} {s : Sl} {l : List Int} (h : IOw w base s.a s.n s.c l) {g : Nat} (hb : s.blk = some g) : 0 < s.c ∧ s.a = some ⟨g, 0, none⟩ := by
  unfold Sl.blk at hb
  split at hb
  · cases hb
  · rename_i hc
    obtain ⟨g', ha, _, _⟩ := Own.block h (by omega)
    rw [ha] at hb
    simp at hb
    subst hb
    exact ⟨by omega, ha⟩

/-- phase 2: to the copies below k the marks behind their lists have been appended -/
structure St2 (base : Nat) (als : Option Addr) (cls : Nat) (L : List Sl) (w : World) (B : Nat) (k : Nat) (ags : Option Addr) (cgs : Nat) (G : List Sl) (wr : World) : Prop where
  outer : SOwn wr base als L.length cls L
  gs : SOwn wr B ags k cgs G
  lists : ∀ j (hj : j < L.length), IOw wr base (L[j]).a (L[j]).n (L[j]).c (mkl j (L[j]).n)
  done : ∀ j (hj : j < L.length) (hG : j < G.length), (G[j]).n = (L[j]).n + 70 ∧ IOw wr base (G[j]).a (G[j]).n (G[j]).c (mkl j ((L[j]).n + 70)) ∧ ∀ g, (G[j]).blk = some g → (L[j]).blk = some g ∨ B ≤ g
  below : Below base w wr
  size : B ≤ wr.heap.size
  baseB : base ≤ B
  oldO : ∀ g, 0 < cls → als = some ⟨g, 0, none⟩ → g < B
  oldL : ∀ j (hj : j < L.length) g, (L[j]).blk = some g → g < B

theorem St2.start {base : Nat} {als : Option Addr} {cls : Nat} {L : List Sl} {w wr : World} (h : St1 base als cls L w L.length 0 wr) (hb : base ≤ w.heap.size) : St2 base als cls L w wr.heap.size 0 none 0 [] wr where
  outer := h.outer
  gs := Own.nil _ _ _ _ _
  lists := fun j hj => by
    obtain ⟨l, ho, h1, _⟩ := h.inner j hj
    rw [h1 hj] at ho
    exact ho
  done := fun j hj hG => absurd hG (by simp)
  below := h.below
  size := Nat.le_refl _
  baseB := Nat.le_trans hb h.below.size
  oldO := fun g hc ha => by
    obtain ⟨g', ha', _, hlt⟩ := Own.block h.outer hc
    rw [ha] at ha'
    injection ha' with ha'; injection ha' with ha'
    omega
  oldL := fun j hj g hg => by
    obtain ⟨l, ho, _, _⟩ := h.inner j hj
    obtain ⟨hc, ha⟩ := ho.blk hg
    obtain ⟨g', ha', _, hlt⟩ := Own.block ho hc
    rw [ha] at ha'
    injection ha' with ha'; injection ha' with ha'
    omega

/-- the inner loop of phase 2 -/
structure In2 (base : Nat) (L : List Sl) (k : Nat) (hk : k < L.length) (wk : World) (i : Nat) (a : Option Addr) (c : Nat) (wr : World) : Prop where
  row : IOw wr base a ((L[k]).n + i) c (mkl k ((L[k]).n + i))
  frame : wk.grownBy wr (L[k]).blk
  place : ∀ g, 0 < c → a = some ⟨g, 0, none⟩ → (L[k]).blk = some g ∨ wk.heap.size ≤ g
  list : IOw wr base (L[k]).a (L[k]).n (L[k]).c (mkl k (L[k]).n)

theorem In2.start {base : Nat} {als : Option Addr} {cls : Nat} {L : List Sl} {w : World} {B k : Nat} {ags : Option Addr} {cgs : Nat} {G : List Sl} {wr : World} (h : St2 base als cls L w B k ags cgs G wr) (hk : k < L.length) : In2 base L k hk wr 0 (L[k]).a (L[k]).c wr :=
  ⟨h.lists k hk, World.grownBy.refl _ _, fun g hc ha => .inl (Sl.blk_some hc ha), h.lists k hk⟩

theorem In2.next {base : Nat} {L : List Sl} {k : Nat} {hk : k < L.length} {wk : World} {i : Nat} {a : Option Addr} {c : Nat} {wr : World} (h : In2 base L k hk wk i a c wr) {g c' : Nat} {w1 : World}
    (ho : Own w1 base 3 1 (some ⟨g, 0, none⟩) ((L[k]).n + i + 1) c' ((mkl k ((L[k]).n + i)).map bval ++ [.int .i64 (mrk ((k : Int) + 1) (((L[k]).n : Int) + (i : Int)))])) (hg : GrewP wr w1 a c (some ⟨g, 0, none⟩) c') : In2 base L k hk wk (i + 1) (some ⟨g, 0, none⟩) c' w1 := by
  have hrow : IOw w1 base (some ⟨g, 0, none⟩) ((L[k]).n + (i + 1)) c' (mkl k ((L[k]).n + (i + 1))) := by
    unfold IOw
    rw [← Nat.add_assoc, mkl_succ, List.map_append]
    have e : (((L[k]).n + i : Nat) : Int) = ((L[k]).n : Int) + (i : Int) := by omega
    rw [e]
    exact ho
  rcases hg with ⟨g1, e1, rfl, hc, hcc, hg⟩ | ⟨g1, e1, hs, hg⟩
  · injection e1 with e1; injection e1 with e1
    subst e1
    have hpl := h.place g hc rfl
    refine ⟨hrow, ?_, fun g2 _ e2 => ?_, ?_⟩
    · rcases hpl with hb | hb
      · rw [hb]; exact grownBy_trans (by have := h.frame; rwa [hb] at this) hg
      · exact ⟨hg.os.trans h.frame.os, hg.tape.trans h.frame.tape, hg.output.trans h.frame.output, Nat.le_trans h.frame.size hg.size, fun b hb1 hb2 => (hg.block b (Nat.lt_of_lt_of_le hb1 h.frame.size) (by simp; omega)).trans (h.frame.block b hb1 hb2)⟩
    · injection e2 with e2; injection e2 with e2
      subst e2
      exact hpl
    · by_cases hb : (L[k]).blk = some g
      · obtain ⟨hc2, ha2⟩ := h.list.blk hb
        have hl := h.list
        rw [ha2] at hl ⊢
        have hcap := own_cap h.row hl hc hc2
        refine own_prefix hl hc2 hrow (by omega) ?_ (by omega)
        rw [← List.map_take, mkl_take _ _ _ (by omega)]
      · refine Own.grownNe h.list hg fun g2 hc2 ha2 e2 => ?_
        injection e2 with e2
        subst e2
        exact hb (Sl.blk_some hc2 ha2)
  · injection e1 with e1; injection e1 with e1
    subst e1
    refine ⟨hrow, grownBy_trans h.frame (grownBy_some hg _), fun g2 _ e2 => ?_, Own.grownNone h.list hg⟩
    injection e2 with e2; injection e2 with e2
    subst e2
    exact .inr (Nat.le_trans h.frame.size hs)

theorem St2.outerIn {base : Nat} {als : Option Addr} {cls : Nat} {L : List Sl} {w : World} {B k : Nat} {ags : Option Addr} {cgs : Nat} {G : List Sl} {wk wr : World} (h : St2 base als cls L w B k ags cgs G wk) (hk : k < L.length) (hf : wk.grownBy wr (L[k]).blk) : SOwn wr base als L.length cls L := by
  refine Own.grownNe h.outer hf fun g1 hc1 ha1 hb1 => ?_
  obtain ⟨hc2, ha2⟩ := (h.lists k hk).blk hb1
  have h3 := h.outer
  have h4 := h.lists k hk
  rw [ha1] at h3
  rw [ha2] at h4
  exact own_ne h3 h4 hc1 hc2 (by decide) rfl

/-- the copy is laid among the others -/
theorem St2.next {base : Nat} {als : Option Addr} {cls : Nat} {L : List Sl} {w : World} {B k : Nat} {ags : Option Addr} {cgs : Nat} {G : List Sl} {wk wr w1 : World} (h : St2 base als cls L w B k ags cgs G wk) (hk : k < L.length) (hd : Distinct L) {a : Option Addr} {c : Nat} (h2 : In2 base L k hk wk 70 a c wr)
    {g cg : Nat} (ho : Own w1 B 23 1 (some ⟨g, 0, none⟩) (k + 1) cg (G.map Sl.val ++ [.slice a ((L[k]).n + 70) c])) (hg : GrewP wr w1 ags cgs (some ⟨g, 0, none⟩) cg) : St2 base als cls L w B (k + 1) (some ⟨g, 0, none⟩) cg (G ++ [⟨a, (L[k]).n + 70, c⟩]) w1 := by
  have hGl : G.length = k := h.gs.len
  have gs' : SOwn wr B ags k cgs G := by
    refine Own.grownNe h.gs h2.frame fun g1 hc1 ha1 hb1 => ?_
    obtain ⟨hc2, ha2⟩ := (h.lists k hk).blk hb1
    have h3 := h.gs
    have h4 := h.lists k hk
    rw [ha1] at h3
    rw [ha2] at h4
    exact own_ne h3 h4 hc1 hc2 (by decide) rfl
  have lists' : ∀ j (hj : j < L.length), IOw wr base (L[j]).a (L[j]).n (L[j]).c (mkl j (L[j]).n) := by
    intro j hj
    by_cases e : j = k
    · subst e; exact h2.list
    · exact Own.grownNe (h.lists j hj) h2.frame fun g1 hc1 ha1 hb1 => hd j k hj hk e g1 (Sl.blk_some hc1 ha1) hb1
  refine ⟨?_, by unfold SOwn; rw [List.map_append]; exact ho, fun j hj => Own.grewOther (lists' j hj) gs' hg (by decide), fun j hj hG => ?_, ?_, ?_, h.baseB, h.oldO, h.oldL⟩
  · have o1 := h.outerIn hk h2.frame
    rcases hg with ⟨g1, e1, rfl, hc, hcc, hg⟩ | ⟨g1, e1, hs, hg⟩
    · refine Own.grownNe o1 hg fun g2 hc2 ha2 e2 => ?_
      injection e2 with e2
      subst e2
      have := h.oldO _ hc2 ha2
      obtain ⟨g3, e3, hb3, _⟩ := Own.block gs' hc
      rw [e1] at e3
      injection e3 with e3; injection e3 with e3
      omega
    · exact Own.grownNone o1 hg
  · by_cases e : j = k
    · subst e
      have eG : (G ++ [(⟨a, (L[j]).n + 70, c⟩ : Sl)])[j] = ⟨a, (L[j]).n + 70, c⟩ := by
        rw [List.getElem_append_right (by omega)]; simp [hGl]
      rw [eG]
      refine ⟨rfl, Own.grewOther h2.row gs' hg (by decide), fun g1 hb1 => ?_⟩
      have hb2 : c ≠ 0 ∧ ∃ x, a = some x ∧ x.block = g1 := by
        simp only [Sl.blk] at hb1
        split at hb1
        · cases hb1
        · rename_i hc
          exact ⟨hc, by simpa [Option.map_eq_some_iff] using hb1⟩
      obtain ⟨hc, x, rfl, rfl⟩ := hb2
      obtain ⟨g3, e3, _, _⟩ := Own.block h2.row (by omega)
      injection e3 with e3
      subst e3
      rcases h2.place g3 (by omega) rfl with hp | hp
      · exact .inl hp
      · exact .inr (Nat.le_trans h.size hp)
    · have hjk : j < k := by simp at hG; omega
      have eG : (G ++ [(⟨a, (L[k]).n + 70, c⟩ : Sl)])[j] = G[j]'(by omega) := List.getElem_append_left (by omega)
      rw [eG]
      obtain ⟨e1, e2, e3⟩ := h.done j hj (by omega)
      refine ⟨e1, Own.grewOther (Own.grownNe e2 h2.frame fun g1 hc1 ha1 hb1 => ?_) gs' hg (by decide), e3⟩
      rcases e3 g1 (Sl.blk_some hc1 ha1) with h5 | h5
      · exact hd j k hj hk e g1 h5 hb1
      · have := h.oldL k hk g1 hb1
        omega
  · have f1 : Below base wk wr := by
      refine ⟨h2.frame.os, h2.frame.tape, h2.frame.output, h2.frame.size, fun b hb => h2.frame.block b (by have := h.size; have := h.baseB; omega) fun e => ?_⟩
      obtain ⟨hc2, ha2⟩ := (h.lists k hk).blk e.symm
      obtain ⟨g3, e3, hb3, _⟩ := Own.block (h.lists k hk) hc2
      rw [ha2] at e3
      injection e3 with e3; injection e3 with e3
      omega
    refine h.below.trans (f1.trans ?_)
    rcases hg with ⟨g1, e1, rfl, hc, hcc, hg⟩ | ⟨g1, e1, hs, hg⟩
    · obtain ⟨g3, e3, hb3, _⟩ := Own.block gs' hc
      rw [e1] at e3
      injection e3 with e3; injection e3 with e3
      exact (Below.refl base wr).grown hg (by have := h.size; have := h.baseB; have := h2.frame.size; omega) (by rintro b ⟨⟩; have := h.baseB; omega)
    · exact (Below.refl base wr).grown hg (by have := h.size; have := h.baseB; have := h2.frame.size; omega) (by simp)
  · have := h.size
    have := h2.frame.size
    have := hg.grew.size
    omega

/-- phase 3: what is looked at -/
theorem St2.look {base : Nat} {als : Option Addr} {cls : Nat} {L : List Sl} {w : World} {B : Nat} {ags : Option Addr} {cgs : Nat} {G : List Sl} {wr : World} (h : St2 base als cls L w B L.length ags cgs G wr) (k : Nat) (hk : k < L.length) :
    ∃ gl gg h c, als = some ⟨gl, 0, none⟩ ∧ ags = some ⟨gg, 0, none⟩ ∧ wr.cell? ⟨gl, k, none⟩ = some (.slice (L[k]).a (L[k]).n (L[k]).c) ∧ wr.cell? ⟨gg, k, none⟩ = some (.slice (some ⟨h, 0, none⟩) ((L[k]).n + 70) c) ∧
      (∀ i, i < (L[k]).n + 70 → wr.cell? ⟨h, i, none⟩ = some (.int .i64 (mrk ((k : Int) + 1) (i : Int)))) ∧
      (∀ i, i < (L[k]).n → ∃ g, (L[k]).a = some ⟨g, 0, none⟩ ∧ wr.cell? ⟨g, i, none⟩ = some (.int .i64 (mrk ((k : Int) + 1) (i : Int)))) := by
  obtain ⟨gl, e1, _, _, c1, _⟩ := Own.cell h.outer k (by simpa using hk)
  obtain ⟨gg, e2, _, _, c2, _⟩ := Own.cell h.gs k (by simpa [h.gs.len] using hk)
  have hG : k < G.length := by rw [h.gs.len]; exact hk
  obtain ⟨d1, d2, _⟩ := h.done k hk hG
  obtain ⟨hh, e3, _, _, _, _⟩ := Own.cell d2 0 (by simp [mkl_length])
  refine ⟨gl, gg, hh, (G[k]).c, e1, e2, by rw [c1]; simp [Sl.val], by rw [c2]; simp [Sl.val, e3, d1], fun i hi => ?_, fun i hi => ?_⟩
  · obtain ⟨h', e4, _, _, c4, _⟩ := Own.cell d2 i (by simp [mkl_length]; omega)
    rw [e3] at e4
    injection e4 with e4; injection e4 with e4
    subst e4
    rw [c4]
    simp [bval, mkl]
  · obtain ⟨g, e4, _, _, c4, _⟩ := Own.cell (h.lists k hk) i (by simp [mkl_length]; omega)
    exact ⟨g, e4, by rw [c4]; simp [bval, mkl]⟩



set_option maxRecDepth 100000 in
set_option maxHeartbeats 1000000 in
theorem apart_any (base : Nat) (als : Option Addr) (cls : Nat) (L : List Sl) (w : World) (hs : St1 base als cls L w 0 0 w) (hb : base ≤ w.heap.size) (hd : Distinct L) (hK : L.length ≤ 100000000) (hN : ∀ j (hj : j < L.length), (L[j]).n ≤ 100000000) :
    Calls Try.prog 21 #[.slice als L.length cls] w fun e w' => e = .returned (.bool true) ∧ Below base w w' := by
  have HD : Hid (Distinct L) := hd
  have HN : Hid (∀ j (hj : j < L.length), (L[j]).n ≤ 100000000) := hN
  clear hd hN
  go_enter Try.func21, Try.ntmps21
  go_wp2_with fail
  go_loopw [3] (fun i wr => ∃ k : Nat, k ≤ L.length ∧ i = .int .i64 k ∧ St1 base als cls L w k 0 wr) (fun i _ => L.length - (intOf i).toNat)
  case atStart => exact ⟨0, by omega, rfl, hs⟩
  case round =>
    obtain ⟨k, hk, rfl, hst⟩ := hrel
    by_cases hlt : k < L.length
    · go_wp2_with fail
      obtain ⟨wo, rfl⟩ : ∃ wo : World, wo = wr := ⟨_, rfl⟩
      go_loopw [4] (fun i wr => ∃ j : Nat, j ≤ (L[k]).n ∧ i = .int .i64 j ∧ St1 base als cls L w k j wr) (fun i _ => (L[k]).n - (intOf i).toNat)
      case atStart => exact ⟨0, by omega, rfl, hst⟩
      case round =>
        obtain ⟨j, hj, rfl, hst⟩ := hrel
        have HST : Hid (St1 base als cls L w k j wr) := hst
        clear hst
        obtain ⟨gs, rfl, _, _, hcs, _⟩ := Own.cell HST.out.outer k (by simpa using hlt)
        have hcs' : wr.cell? ⟨gs, k, none⟩ = some (.slice (L[k]).a (L[k]).n (L[k]).c) := by rw [hcs]; simp [Sl.val]
        clear hcs
        have hn := HN.out k hlt
        by_cases hjt : j < (L[k]).n
        · obtain ⟨g, ha, ⟨u, hu⟩, hf, hst'⟩ := HST.out.store HD.out hlt hjt
          rw [ha] at hcs'
          have HA : Hid ((L[k]).a = some ⟨g, 0, none⟩) := ha
          clear ha
          go_wp2_with fail
          have hw1 : IntKind.i64.wrap ((k : Int) + 1) = (k : Int) + 1 := IntWalk.i64_in _ (by omega)
          refine wp_region_still_tail 10 (by kernel_rfl) (by kernel_rfl) ?_
          simp only [List.take_succ_cons, List.take_zero, List.drop_succ_cons, List.drop_zero]
          repeat still_step
          still_call ((mark_any _ _ _ (by omega) (by omega)).mono fun e w' ⟨he, hw⟩ => ⟨he, hw.symm⟩)
          repeat still_step
          refine wpStill_nil ?_
          change wpList _ _ _ _ _ wr.drew
          go_wp2
          go_roundw
          case rel => exact ⟨j + 1, by omega, by go_num, hst'.drew⟩
          case measure => simp [intOf]; omega
        · obtain rfl : j = (L[k]).n := by omega
          go_wp2_with fail
          go_roundw
          case rel => exact ⟨k + 1, by omega, by go_num, HST.out.next hlt rfl⟩
          case measure => simp [intOf]; omega
    · obtain rfl : k = L.length := by omega
      obtain ⟨wk, rfl⟩ : ∃ wk : World, wk = wr := ⟨_, rfl⟩
      have HS2 : Hid (St2 base als cls L w wk.heap.size 0 none 0 [] wk) := St2.start hst hb
      clear hst
      go_wp2_with fail
      go_loopw [5, 6] (fun v i wr => ∃ (k : Nat) (ags : Option Addr) (cgs : Nat) (G : List Sl), k ≤ L.length ∧ i = .int .i64 k ∧ v = .slice ags k cgs ∧ St2 base als cls L w wk.heap.size k ags cgs G wr) (fun _ i _ => L.length - (intOf i).toNat)
      case atStart => exact ⟨0, none, 0, [], by omega, rfl, rfl, HS2.out⟩
      case round =>
        obtain ⟨k, ags, cgs, G, hk, rfl, rfl, hst⟩ := hrel
        have HST : Hid (St2 base als cls L w wk.heap.size k ags cgs G wr) := hst
        clear hst
        by_cases hlt : k < L.length
        · obtain ⟨gs, e1, _, _, hcs, _⟩ := Own.cell HST.out.outer k (by simpa using hlt)
          have hcs' : wr.cell? ⟨gs, k, none⟩ = some (.slice (L[k]).a (L[k]).n (L[k]).c) := by rw [hcs]; simp [Sl.val]
          clear hcs
          obtain rfl := e1
          go_wp2_with fail
          obtain ⟨wo, rfl⟩ : ∃ wo : World, wo = wr := ⟨_, rfl⟩
          go_loopw [7, 8] (fun v i wr => ∃ (m : Nat) (a : Option Addr) (c : Nat), m ≤ 70 ∧ i = .int .i64 m ∧ v = .slice a ((L[k]).n + m) c ∧ In2 base L k hlt wo m a c wr) (fun _ i _ => 70 - (intOf i).toNat)
          case atStart => exact ⟨0, _, _, by omega, rfl, rfl, In2.start HST.out hlt⟩
          case round =>
            obtain ⟨m, a, c, hm, rfl, rfl, hin⟩ := hrel
            have HIN : Hid (In2 base L k hlt wo m a c wr) := hin
            clear hin
            obtain ⟨gs2, e1, _, _, hcs, _⟩ := Own.cell (HST.out.outerIn hlt HIN.out.frame) k (by simpa using hlt)
            obtain rfl : gs = gs2 := by simpa using e1
            clear e1
            have hcs2 : wr.cell? ⟨gs, k, none⟩ = some (.slice (L[k]).a (L[k]).n (L[k]).c) := by rw [hcs]; simp [Sl.val]
            clear hcs
            have hn := HN.out k hlt
            have hsz : base ≤ wr.heap.size := Nat.le_trans HST.out.baseB (Nat.le_trans HST.out.size HIN.out.frame.size)
            by_cases hm70 : m < 70
            · go_wp2_with (first | (go_at_call 47; refine (mark_any _ _ _ (by omega) (by omega)).mono ?_; rintro e w' ⟨rfl, rfl⟩) | (at_builtin; refine wpList_push elI rfl (.tmp 51) (.tmp 62) rfl rfl HIN.out.row (.int .i64 (mrk ((k : Int) + 1) (((L[k]).n : Int) + (m : Int)))) rfl rfl (by unfold maxLen; omega) (by omega) hsz ?_; intro g cap w1 hown1 hgr))
              go_roundw
              case rel => exact ⟨m + 1, _, _, by omega, by go_num, rfl, HIN.out.next hown1 hgr⟩
              case measure => simp [intOf]; omega
            · obtain rfl : m = 70 := by omega
              have hgs : SOwn wr wk.heap.size ags k cgs G := Own.grownNe HST.out.gs HIN.out.frame fun g1 hc1 ha1 hb1 => by
                obtain ⟨hc2, ha2⟩ := (HST.out.lists k hlt).blk hb1
                have h3 := HST.out.gs
                have h4 := HST.out.lists k hlt
                rw [ha1] at h3
                rw [ha2] at h4
                exact own_ne h3 h4 hc1 hc2 (by decide) rfl
              have hszB : wk.heap.size ≤ wr.heap.size := Nat.le_trans HST.out.size HIN.out.frame.size
              go_wp2_with (at_builtin; refine wpList_push elSI rfl (.tmp 64) (.tmp 66) rfl rfl hgs (.slice a ((L[k]).n + 70) c) rfl rfl (by unfold maxLen; omega) (by omega) hszB ?_; intro g cap w1 hown1 hgr)
              go_roundw
              case rel => exact ⟨k + 1, _, _, _, by omega, by go_num, rfl, HST.out.next hlt HD.out HIN.out hown1 hgr⟩
              case measure => simp [intOf]; omega
        · obtain rfl : k = L.length := by omega
          obtain ⟨w3, rfl⟩ : ∃ w3 : World, w3 = wr := ⟨_, rfl⟩
          go_wp2_with fail
          go_loopw [9] (fun i wr => ∃ k n : Nat, k ≤ L.length ∧ i = .int .i64 k ∧ wr = w3.drewN n) (fun i _ => L.length - (intOf i).toNat)
          case atStart => exact ⟨0, 0, by omega, rfl, rfl⟩
          case round =>
            obtain ⟨k, n, hk, rfl, rfl⟩ := hrel
            by_cases hlt : k < L.length
            · obtain ⟨gl, gg, h, c, rfl, rfl, c1, c2, c3, c4⟩ := HST.out.look k hlt
              have C3 := Lib.hid c3
              have C4 := Lib.hid c4
              clear c3 c4
              have hn := HN.out k hlt
              go_wp2_with fail
              go_loopw [10] (fun i wr => ∃ j m : Nat, j ≤ (L[k]).n + 70 ∧ i = .int .i64 j ∧ wr = w3.drewN m) (fun i _ => (L[k]).n + 70 - (intOf i).toNat)
              case atStart => exact ⟨0, n, by omega, rfl, rfl⟩
              case round =>
                obtain ⟨j, m, hj, rfl, rfl⟩ := hrel
                by_cases hjt : j < (L[k]).n + 70
                · have c3 := C3.out j hjt
                  by_cases hjn : j < (L[k]).n
                  · obtain ⟨g, ha, c4⟩ := C4.out j hjn
                    rw [ha] at c1
                    have HA := Lib.hid ha
                    clear ha
                    go_wp2_with (go_at_call 47; refine (mark_any _ _ _ (by omega) (by omega)).mono ?_; rintro e w' ⟨rfl, rfl⟩)
                    go_roundw
                    case rel => exact ⟨j + 1, m, by omega, by go_num, rfl⟩
                    case measure => simp [intOf]; omega
                  · have hjd : decide ((j : Int) < ((L[k]).n : Int)) = false := by rw [decide_eq_false_iff_not]; omega
                    go_wp2_with (go_at_call 47; refine (mark_any _ _ _ (by omega) (by omega)).mono ?_; rintro e w' ⟨rfl, rfl⟩)
                    go_roundw
                    case rel => exact ⟨j + 1, m, by omega, by go_num, rfl⟩
                    case measure => simp [intOf]; omega
                · obtain rfl : j = (L[k]).n + 70 := by omega
                  go_wp2_with fail
                  go_roundw
                  case rel => exact ⟨k + 1, m, by omega, by go_num, rfl⟩
                  case measure => simp [intOf]; omega
            · obtain rfl : k = L.length := by omega
              go_wp2_with fail
              go_ret
              exact ⟨rfl, HST.out.below.trans ⟨rfl, rfl, rfl, Nat.le_refl _, fun _ _ => rfl⟩⟩

theorem apart_n (base : Nat) (als : Option Addr) (cls n : Nat) (L : List Sl) (w : World) (hs : St1 base als cls L w 0 0 w) (hb : base ≤ w.heap.size) (hd : Distinct L) (hn : L.length = n) (hK : n ≤ 100000000) (hN : ∀ j (hj : j < L.length), (L[j]).n ≤ 100000000) :
    Calls Try.prog 21 #[.slice als n cls] w fun e w' => e = .returned (.bool true) ∧ Below base w w' := by
  subst hn
  exact apart_any base als cls L w hs hb hd hK hN

end Go.Proofs.Ytkdmebcfedehiaa.Ints
/- strongroomkit.ApartBytes. -/
namespace Go.Proofs.Ytkdmebcfedehiaa
open Go.RowKit

set_option maxRecDepth 100000 in
set_option maxHeartbeats 1000000 in
theorem apart_any (base : Nat) (als : Option Addr) (cls : Nat) (L : List Sl) (w : World) (hs : St1 base als cls L w 0 0 w) (hb : base ≤ w.heap.size) (hd : Distinct L) (hK : L.length ≤ 100000000) (hN : ∀ j (hj : j < L.length), (L[j]).n ≤ 100000000) :
    Calls Try.prog 20 #[.slice als L.length cls] w fun e w' => e = .returned (.bool true) ∧ Below base w w' := by
  have HD : Hid (Distinct L) := hd
  have HN : Hid (∀ j (hj : j < L.length), (L[j]).n ≤ 100000000) := hN
  clear hd hN
  go_enter Try.func20, Try.ntmps20
  go_wp2_with fail
  go_loopw [3] (fun i wr => ∃ k : Nat, k ≤ L.length ∧ i = .int .i64 k ∧ St1 base als cls L w k 0 wr) (fun i _ => L.length - (intOf i).toNat)
  case atStart => exact ⟨0, by omega, rfl, hs⟩
  case round =>
    obtain ⟨k, hk, rfl, hst⟩ := hrel
    by_cases hlt : k < L.length
    · go_wp2_with fail
      obtain ⟨wo, rfl⟩ : ∃ wo : World, wo = wr := ⟨_, rfl⟩
      go_loopw [4] (fun i wr => ∃ j : Nat, j ≤ (L[k]).n ∧ i = .int .i64 j ∧ St1 base als cls L w k j wr) (fun i _ => (L[k]).n - (intOf i).toNat)
      case atStart => exact ⟨0, by omega, rfl, hst⟩
      case round =>
        obtain ⟨j, hj, rfl, hst⟩ := hrel
        have HST : Hid (St1 base als cls L w k j wr) := hst
        clear hst
        obtain ⟨gs, rfl, _, _, hcs, _⟩ := Own.cell HST.out.outer k (by simpa using hlt)
        have hcs' : wr.cell? ⟨gs, k, none⟩ = some (.slice (L[k]).a (L[k]).n (L[k]).c) := by rw [hcs]; simp [Sl.val]
        clear hcs
        have hn := HN.out k hlt
        by_cases hjt : j < (L[k]).n
        · obtain ⟨g, ha, ⟨u, hu⟩, hf, hst'⟩ := HST.out.store HD.out hlt hjt
          rw [ha] at hcs'
          have HA : Hid ((L[k]).a = some ⟨g, 0, none⟩) := ha
          clear ha
          go_wp2_with fail
          have hw1 : IntKind.i64.wrap ((k : Int) + 1) = (k : Int) + 1 := IntWalk.i64_in _ (by omega)
          refine wp_region_still_tail 10 (by kernel_rfl) (by kernel_rfl) ?_
          simp only [List.take_succ_cons, List.take_zero, List.drop_succ_cons, List.drop_zero]
          repeat still_step
          still_call ((mark_any _ _ _ (by omega) (by omega)).mono fun e w' ⟨he, hw⟩ => ⟨he, hw.symm⟩)
          repeat still_step
          refine wpStill_nil ?_
          change wpList _ _ _ _ _ wr.drew
          go_wp2
          go_roundw
          case rel => exact ⟨j + 1, by omega, by go_num, hst'.drew⟩
          case measure => simp [intOf]; omega
        · obtain rfl : j = (L[k]).n := by omega
          go_wp2_with fail
          go_roundw
          case rel => exact ⟨k + 1, by omega, by go_num, HST.out.next hlt rfl⟩
          case measure => simp [intOf]; omega
    · obtain rfl : k = L.length := by omega
      obtain ⟨wk, rfl⟩ : ∃ wk : World, wk = wr := ⟨_, rfl⟩
      have HS2 : Hid (St2 base als cls L w wk.heap.size 0 none 0 [] wk) := St2.start hst hb
      clear hst
      go_wp2_with fail
      go_loopw [5, 6] (fun v i wr => ∃ (k : Nat) (ags : Option Addr) (cgs : Nat) (G : List Sl), k ≤ L.length ∧ i = .int .i64 k ∧ v = .slice ags k cgs ∧ St2 base als cls L w wk.heap.size k ags cgs G wr) (fun _ i _ => L.length - (intOf i).toNat)
      case atStart => exact ⟨0, none, 0, [], by omega, rfl, rfl, HS2.out⟩
      case round =>
        obtain ⟨k, ags, cgs, G, hk, rfl, rfl, hst⟩ := hrel
        have HST : Hid (St2 base als cls L w wk.heap.size k ags cgs G wr) := hst
        clear hst
        by_cases hlt : k < L.length
        · obtain ⟨gs, e1, _, _, hcs, _⟩ := Own.cell HST.out.outer k (by simpa using hlt)
          have hcs' : wr.cell? ⟨gs, k, none⟩ = some (.slice (L[k]).a (L[k]).n (L[k]).c) := by rw [hcs]; simp [Sl.val]
          clear hcs
          obtain rfl := e1
          go_wp2_with fail
          obtain ⟨wo, rfl⟩ : ∃ wo : World, wo = wr := ⟨_, rfl⟩
          go_loopw [7, 8] (fun v i wr => ∃ (m : Nat) (a : Option Addr) (c : Nat), m ≤ 70 ∧ i = .int .i64 m ∧ v = .slice a ((L[k]).n + m) c ∧ In2 base L k hlt wo m a c wr) (fun _ i _ => 70 - (intOf i).toNat)
          case atStart => exact ⟨0, _, _, by omega, rfl, rfl, In2.start HST.out hlt⟩
          case round =>
            obtain ⟨m, a, c, hm, rfl, rfl, hin⟩ := hrel
            have HIN : Hid (In2 base L k hlt wo m a c wr) := hin
            clear hin
            obtain ⟨gs2, e1, _, _, hcs, _⟩ := Own.cell (HST.out.outerIn hlt HIN.out.frame) k (by simpa using hlt)
            obtain rfl : gs = gs2 := by simpa using e1
            clear e1
            have hcs2 : wr.cell? ⟨gs, k, none⟩ = some (.slice (L[k]).a (L[k]).n (L[k]).c) := by rw [hcs]; simp [Sl.val]
            clear hcs
            have hn := HN.out k hlt
            have hsz : base ≤ wr.heap.size := Nat.le_trans HST.out.baseB (Nat.le_trans HST.out.size HIN.out.frame.size)
            by_cases hm70 : m < 70
            · go_wp2_with (first | (go_at_call 46; refine (mark_any _ _ _ (by omega) (by omega)).mono ?_; rintro e w' ⟨rfl, rfl⟩) | (at_builtin; refine wpList_push elB rfl (.tmp 51) (.tmp 62) rfl rfl HIN.out.row (.int .u8 ((mrk ((k : Int) + 1) (((L[k]).n : Int) + (m : Int))).toNat : Int)) rfl rfl (by unfold maxLen; omega) (by omega) hsz ?_; intro g cap w1 hown1 hgr))
              go_roundw
              case rel => exact ⟨m + 1, _, _, by omega, by go_num, rfl, HIN.out.next hown1 hgr⟩
              case measure => simp [intOf]; omega
            · obtain rfl : m = 70 := by omega
              have hgs : SOwn wr wk.heap.size ags k cgs G := Own.grownNe HST.out.gs HIN.out.frame fun g1 hc1 ha1 hb1 => by
                obtain ⟨hc2, ha2⟩ := (HST.out.lists k hlt).blk hb1
                have h3 := HST.out.gs
                have h4 := HST.out.lists k hlt
                rw [ha1] at h3
                rw [ha2] at h4
                exact own_ne h3 h4 hc1 hc2 (by decide) rfl
              have hszB : wk.heap.size ≤ wr.heap.size := Nat.le_trans HST.out.size HIN.out.frame.size
              go_wp2_with (at_builtin; refine wpList_push elS rfl (.tmp 64) (.tmp 66) rfl rfl hgs (.slice a ((L[k]).n + 70) c) rfl rfl (by unfold maxLen; omega) (by omega) hszB ?_; intro g cap w1 hown1 hgr)
              go_roundw
              case rel => exact ⟨k + 1, _, _, _, by omega, by go_num, rfl, HST.out.next hlt HD.out HIN.out hown1 hgr⟩
              case measure => simp [intOf]; omega
        · obtain rfl : k = L.length := by omega
          obtain ⟨w3, rfl⟩ : ∃ w3 : World, w3 = wr := ⟨_, rfl⟩
          go_wp2_with fail
          go_loopw [9] (fun i wr => ∃ k n : Nat, k ≤ L.length ∧ i = .int .i64 k ∧ wr = w3.drewN n) (fun i _ => L.length - (intOf i).toNat)
          case atStart => exact ⟨0, 0, by omega, rfl, rfl⟩
          case round =>
            obtain ⟨k, n, hk, rfl, rfl⟩ := hrel
            by_cases hlt : k < L.length
            · obtain ⟨gl, gg, h, c, rfl, rfl, c1, c2, c3, c4⟩ := HST.out.look k hlt
              have C3 := Lib.hid c3
              have C4 := Lib.hid c4
              clear c3 c4
              have hn := HN.out k hlt
              go_wp2_with fail
              go_loopw [10] (fun i wr => ∃ j m : Nat, j ≤ (L[k]).n + 70 ∧ i = .int .i64 j ∧ wr = w3.drewN m) (fun i _ => (L[k]).n + 70 - (intOf i).toNat)
              case atStart => exact ⟨0, n, by omega, rfl, rfl⟩
              case round =>
                obtain ⟨j, m, hj, rfl, rfl⟩ := hrel
                by_cases hjt : j < (L[k]).n + 70
                · have c3 := C3.out j hjt
                  by_cases hjn : j < (L[k]).n
                  · obtain ⟨g, ha, c4⟩ := C4.out j hjn
                    rw [ha] at c1
                    have HA := Lib.hid ha
                    clear ha
                    go_wp2_with (go_at_call 46; refine (mark_any _ _ _ (by omega) (by omega)).mono ?_; rintro e w' ⟨rfl, rfl⟩)
                    go_roundw
                    case rel => exact ⟨j + 1, m, by omega, by go_num, rfl⟩
                    case measure => simp [intOf]; omega
                  · have hjd : decide ((j : Int) < ((L[k]).n : Int)) = false := by rw [decide_eq_false_iff_not]; omega
                    go_wp2_with (go_at_call 46; refine (mark_any _ _ _ (by omega) (by omega)).mono ?_; rintro e w' ⟨rfl, rfl⟩)
                    go_roundw
                    case rel => exact ⟨j + 1, m, by omega, by go_num, rfl⟩
                    case measure => simp [intOf]; omega
                · obtain rfl : j = (L[k]).n + 70 := by omega
                  go_wp2_with fail
                  go_roundw
                  case rel => exact ⟨k + 1, m, by omega, by go_num, rfl⟩
                  case measure => simp [intOf]; omega
            · obtain rfl : k = L.length := by omega
              go_wp2_with fail
              go_ret
              exact ⟨rfl, HST.out.below.trans ⟨rfl, rfl, rfl, Nat.le_refl _, fun _ _ => rfl⟩⟩

theorem apart_n (base : Nat) (als : Option Addr) (cls n : Nat) (L : List Sl) (w : World) (hs : St1 base als cls L w 0 0 w) (hb : base ≤ w.heap.size) (hd : Distinct L) (hn : L.length = n) (hK : n ≤ 100000000) (hN : ∀ j (hj : j < L.length), (L[j]).n ≤ 100000000) :
    Calls Try.prog 20 #[.slice als n cls] w fun e w' => e = .returned (.bool true) ∧ Below base w w' := by
  subst hn
  exact apart_any base als cls L w hs hb hd hK hN

end Go.Proofs.Ytkdmebcfedehiaa
/- ApartBytes of a literal list of lists. No walk. -/
namespace Go.Proofs.Ytkdmebcfedehiaa
open Go.RowKit

/-- between which numbers a slice's block lies -/
def Sl.within (s : Sl) (lo hi : Nat) : Prop := ∀ g, s.blk = some g → lo ≤ g ∧ g < hi
theorem BOwn.within {w : World} {base : Nat} {a : Option Addr} {n c : Nat} {l : List UInt8} (h : BOwn w base a n c l) : (⟨a, n, c⟩ : Sl).within base w.heap.size := by
  intro g hg
  have h' : BOwn w base (⟨a, n, c⟩ : Sl).a (⟨a, n, c⟩ : Sl).n (⟨a, n, c⟩ : Sl).c l := h
  obtain ⟨hc, ha⟩ := h'.blk hg
  obtain ⟨g', e, h1, h2⟩ := Own.block h hc
  rw [show a = some ⟨g, 0, none⟩ from ha] at e
  injection e with e; injection e with e
  subst e
  exact ⟨h1, h2⟩

end Go.Proofs.Ytkdmebcfedehiaa
/- ApartBytes, with a stronger word: blocks that hold other things than bytes stay as they were. Printed by gens/apartt.py. -/
namespace Go.Proofs.Ytkdmebcfedehiaa
open Go.RowKit

/-- block k holds other things than bytes -/
def NB (w : World) (k : Nat) : Prop := ∃ cs e fr, w.heap[k]? = some (.cells cs e fr) ∧ e ≠ 5
theorem NB.lt {w : World} {k : Nat} (h : NB w k) : k < w.heap.size := by
  obtain ⟨cs, e, fr, h1, _⟩ := h
  exact (Array.getElem?_eq_some_iff.1 h1).1
theorem BOwn.notNB {w : World} {base : Nat} {a : Option Addr} {n c g : Nat} {l : List UInt8} (h : BOwn w base a n c l) (hc : 0 < c) (ha : a = some ⟨g, 0, none⟩) (hn : NB w g) : False := by
  obtain ⟨cs, e, fr, h1, h2⟩ := hn
  rcases h.2 with ⟨_, h0⟩ | ⟨g', cur, ha', hb, hh, _⟩
  · omega
  · rw [ha] at ha'
    injection ha' with ha'; injection ha' with ha'
    subst ha'
    rw [hh] at h1
    injection h1 with h1
    injection h1 with _ h3 _
    exact h2 h3.symm
/-- block k holds other things than bytes, or is none of these lists' -/
def Off (L : List Sl) (w : World) (k : Nat) : Prop := NB w k ∨ (k < w.heap.size ∧ ∀ j (hj : j < L.length), (L[j]).blk ≠ some k)
theorem Off.lt {L : List Sl} {w : World} {k : Nat} (h : Off L w k) : k < w.heap.size := h.elim (fun h => h.lt) (fun h => h.1)
structure BelowT (base : Nat) (L : List Sl) (w w' : World) : Prop extends Below base w w' where
  off : ∀ k, Off L w k → w'.heap[k]? = w.heap[k]?
theorem BelowT.other {base : Nat} {L : List Sl} {w w' : World} (h : BelowT base L w w') (k : Nat) (hk : NB w k) : w'.heap[k]? = w.heap[k]? := h.off k (.inl hk)
theorem BelowT.refl (base : Nat) (L : List Sl) (w : World) : BelowT base L w w := ⟨Below.refl _ _, fun _ _ => rfl⟩
theorem BelowT.trans {base : Nat} {L : List Sl} {a b c : World} (h : BelowT base L a b) (k : BelowT base L b c) : BelowT base L a c :=
  ⟨h.toBelow.trans k.toBelow, fun i hi => (k.off i (by
    rcases hi with ⟨cs, e, fr, h1, h2⟩ | ⟨h1, h2⟩
    · exact .inl ⟨cs, e, fr, (h.off i (.inl ⟨cs, e, fr, h1, h2⟩)).trans h1, h2⟩
    · exact .inr ⟨Nat.lt_of_lt_of_le h1 h.toBelow.size, h2⟩)).trans (h.off i hi)⟩
theorem BelowT.drewN {base : Nat} {L : List Sl} {a b : World} (h : BelowT base L a b) (n : Nat) : BelowT base L a (b.drewN n) :=
  ⟨h.toBelow.trans ⟨rfl, rfl, rfl, Nat.le_refl _, fun _ _ => rfl⟩, h.off⟩
theorem BelowT.setCell {base : Nat} {L : List Sl} {a b : World} (h : BelowT base L a b) {g : Nat} (hb : base ≤ g) (hn : Off L b g → False) (i : Nat) (u : Value) : BelowT base L a (b.setCell ⟨g, i, none⟩ u) :=
  h.trans ⟨(Below.refl base b).setCell (p := ⟨g, i, none⟩) hb _, fun k hk => Below.heap_setCell _ _ _ _ (by rintro rfl; exact hn hk)⟩
theorem BelowT.grown {base : Nat} {L : List Sl} {a b c : World} {row : Option Nat} (h : BelowT base L a b) (hg : b.grownBy c row) (hB : base ≤ b.heap.size) (hr : ∀ k, row = some k → base ≤ k ∧ a.heap.size ≤ k) : BelowT base L a c :=
  ⟨h.toBelow.grown hg hB (fun k hk => (hr k hk).1), fun k hk => (hg.block k (Nat.lt_of_lt_of_le hk.lt h.toBelow.size) (fun e => by have := (hr k e.symm).2; have := hk.lt; omega)).trans (h.off k hk)⟩
/-- phase 1: the lists below k bear their marks, list k the first i of them -/
structure TSt1 (base : Nat) (als : Option Addr) (cls : Nat) (L : List Sl) (w : World) (k i : Nat) (wr : World) : Prop where
  outer : SOwn wr base als L.length cls L
  inner : ∀ j (hj : j < L.length), ∃ l, BOwn wr base (L[j]).a (L[j]).n (L[j]).c l ∧ (j < k → l = mkl j (L[j]).n) ∧ (j = k → l.take i = mkl k i)
  below : BelowT base L w wr

theorem TSt1.drewN {base : Nat} {als : Option Addr} {cls : Nat} {L : List Sl} {w : World} {k i : Nat} {wr : World} (h : TSt1 base als cls L w k i wr) (n : Nat) : TSt1 base als cls L w k i (wr.drewN n) :=
  ⟨h.outer, h.inner, h.below.drewN n⟩
theorem TSt1.drew {base : Nat} {als : Option Addr} {cls : Nat} {L : List Sl} {w : World} {k i : Nat} {wr : World} (h : TSt1 base als cls L w k i wr) : TSt1 base als cls L w k i wr.drew := h.drewN 1

theorem TSt1.next {base : Nat} {als : Option Addr} {cls : Nat} {L : List Sl} {w : World} {k i : Nat} {wr : World} (h : TSt1 base als cls L w k i wr) (hk : k < L.length) (hi : i = (L[k]).n) : TSt1 base als cls L w (k + 1) 0 wr := by
  refine ⟨h.outer, fun j hj => ?_, h.below⟩
  obtain ⟨l, ho, h1, h2⟩ := h.inner j hj
  refine ⟨l, ho, fun hjk => ?_, fun _ => by simp [mkl]⟩
  by_cases e : j = k
  · subst e
    have := h2 rfl
    rw [hi, List.take_of_length_le (by rw [ho.len]; omega)] at this
    exact this
  · exact h1 (by omega)

theorem TSt1.store {base : Nat} {als : Option Addr} {cls : Nat} {L : List Sl} {w : World} {k i : Nat} {wr : World} (h : TSt1 base als cls L w k i wr) (hd : Distinct L) (hk : k < L.length) (hi : i < (L[k]).n) :
    ∃ g, (L[k]).a = some ⟨g, 0, none⟩ ∧ (∃ u, wr.cell? ⟨g, i, none⟩ = some u) ∧ wr.frozen? ⟨g, i, none⟩ = false ∧ TSt1 base als cls L w k (i + 1) (wr.setCell ⟨g, i, none⟩ (.int .u8 ((mrk ((k : Int) + 1) (i : Int)).toNat : Int))) := by
  obtain ⟨l, ho, _, h2⟩ := h.inner k hk
  have hlen := ho.len
  obtain ⟨g, ha, hb, hlt, hc, hf⟩ := Own.cell ho i (by simp; omega)
  have hpos : 0 < (L[k]).c := by
    rcases ho.2 with ⟨h0, _⟩ | ⟨_, _, _, _, _, hn, _⟩ <;> omega
  have hblk : (L[k]).blk = some g := by simp [Sl.blk, Nat.ne_of_gt hpos, ha]
  refine ⟨g, ha, ⟨_, hc⟩, hf, ?_, fun j hj => ?_, h.below.setCell hb (fun hn => hn.elim (BOwn.notNB ho hpos ha) (fun h => h.2 k hk hblk)) _ _⟩
  · exact Own.setOther h.outer (by rw [ha] at ho; exact ho) hpos (by decide) _ _
  · by_cases e : j = k
    · subst e
      refine ⟨l.set i (mrk ((j : Int) + 1) (i : Int)), ?_, fun hj' => by omega, fun _ => ?_⟩
      · rw [ha] at ho ⊢
        have := Own.set ho i (by simp; omega) (.int .u8 ((mrk ((j : Int) + 1) (i : Int)).toNat : Int))
        unfold BOwn
        rw [List.map_set]
        exact this
      · rw [take_set_succ (by omega), h2 rfl, mkl_succ]
    · obtain ⟨lj, hoj, h1j, _⟩ := h.inner j hj
      refine ⟨lj, ?_, h1j, fun e' => absurd e' e⟩
      refine hoj.kept' fun hcj g' hg' _ => Below.heap_setCell _ _ _ _ ?_
      rintro rfl
      exact hd j k hj hk e g' (by simp [Sl.blk, Nat.ne_of_gt hcj, hg']) hblk

/-- phase 2: to the copies below k the marks behind their lists have been appended -/
structure TSt2 (base : Nat) (als : Option Addr) (cls : Nat) (L : List Sl) (w : World) (B : Nat) (k : Nat) (ags : Option Addr) (cgs : Nat) (G : List Sl) (wr : World) : Prop where
  outer : SOwn wr base als L.length cls L
  gs : SOwn wr B ags k cgs G
  lists : ∀ j (hj : j < L.length), BOwn wr base (L[j]).a (L[j]).n (L[j]).c (mkl j (L[j]).n)
  done : ∀ j (hj : j < L.length) (hG : j < G.length), (G[j]).n = (L[j]).n + 70 ∧ BOwn wr base (G[j]).a (G[j]).n (G[j]).c (mkl j ((L[j]).n + 70)) ∧ ∀ g, (G[j]).blk = some g → (L[j]).blk = some g ∨ B ≤ g
  below : BelowT base L w wr
  size : B ≤ wr.heap.size
  wB : w.heap.size ≤ B
  baseB : base ≤ B
  oldO : ∀ g, 0 < cls → als = some ⟨g, 0, none⟩ → g < B
  oldL : ∀ j (hj : j < L.length) g, (L[j]).blk = some g → g < B

theorem TSt2.start {base : Nat} {als : Option Addr} {cls : Nat} {L : List Sl} {w wr : World} (h : TSt1 base als cls L w L.length 0 wr) (hb : base ≤ w.heap.size) : TSt2 base als cls L w wr.heap.size 0 none 0 [] wr where
  outer := h.outer
  gs := Own.nil _ _ _ _ _
  lists := fun j hj => by
    obtain ⟨l, ho, h1, _⟩ := h.inner j hj
    rw [h1 hj] at ho
    exact ho
  done := fun j hj hG => absurd hG (by simp)
  below := h.below
  size := Nat.le_refl _
  wB := h.below.size
  baseB := Nat.le_trans hb h.below.size
  oldO := fun g hc ha => by
    obtain ⟨g', ha', _, hlt⟩ := Own.block h.outer hc
    rw [ha] at ha'
    injection ha' with ha'; injection ha' with ha'
    omega
  oldL := fun j hj g hg => by
    obtain ⟨l, ho, _, _⟩ := h.inner j hj
    obtain ⟨hc, ha⟩ := ho.blk hg
    obtain ⟨g', ha', _, hlt⟩ := Own.block ho hc
    rw [ha] at ha'
    injection ha' with ha'; injection ha' with ha'
    omega

theorem In2.startT {base : Nat} {als : Option Addr} {cls : Nat} {L : List Sl} {w : World} {B k : Nat} {ags : Option Addr} {cgs : Nat} {G : List Sl} {wr : World} (h : TSt2 base als cls L w B k ags cgs G wr) (hk : k < L.length) : In2 base L k hk wr 0 (L[k]).a (L[k]).c wr :=
  ⟨h.lists k hk, World.grownBy.refl _ _, fun g hc ha => .inl (Sl.blk_some hc ha), h.lists k hk⟩

theorem TSt2.outerIn {base : Nat} {als : Option Addr} {cls : Nat} {L : List Sl} {w : World} {B k : Nat} {ags : Option Addr} {cgs : Nat} {G : List Sl} {wk wr : World} (h : TSt2 base als cls L w B k ags cgs G wk) (hk : k < L.length) (hf : wk.grownBy wr (L[k]).blk) : SOwn wr base als L.length cls L := by
  refine Own.grownNe h.outer hf fun g1 hc1 ha1 hb1 => ?_
  obtain ⟨hc2, ha2⟩ := (h.lists k hk).blk hb1
  have h3 := h.outer
  have h4 := h.lists k hk
  rw [ha1] at h3
  rw [ha2] at h4
  exact own_ne h3 h4 hc1 hc2 (by decide) rfl

/-- the copy is laid among the others -/
theorem TSt2.next {base : Nat} {als : Option Addr} {cls : Nat} {L : List Sl} {w : World} {B k : Nat} {ags : Option Addr} {cgs : Nat} {G : List Sl} {wk wr w1 : World} (h : TSt2 base als cls L w B k ags cgs G wk) (hk : k < L.length) (hd : Distinct L) {a : Option Addr} {c : Nat} (h2 : In2 base L k hk wk 70 a c wr)
    {g cg : Nat} (ho : Own w1 B 24 1 (some ⟨g, 0, none⟩) (k + 1) cg (G.map Sl.val ++ [.slice a ((L[k]).n + 70) c])) (hg : GrewP wr w1 ags cgs (some ⟨g, 0, none⟩) cg) : TSt2 base als cls L w B (k + 1) (some ⟨g, 0, none⟩) cg (G ++ [⟨a, (L[k]).n + 70, c⟩]) w1 := by
  have hGl : G.length = k := h.gs.len
  have gs' : SOwn wr B ags k cgs G := by
    refine Own.grownNe h.gs h2.frame fun g1 hc1 ha1 hb1 => ?_
    obtain ⟨hc2, ha2⟩ := (h.lists k hk).blk hb1
    have h3 := h.gs
    have h4 := h.lists k hk
    rw [ha1] at h3
    rw [ha2] at h4
    exact own_ne h3 h4 hc1 hc2 (by decide) rfl
  have lists' : ∀ j (hj : j < L.length), BOwn wr base (L[j]).a (L[j]).n (L[j]).c (mkl j (L[j]).n) := by
    intro j hj
    by_cases e : j = k
    · subst e; exact h2.list
    · exact Own.grownNe (h.lists j hj) h2.frame fun g1 hc1 ha1 hb1 => hd j k hj hk e g1 (Sl.blk_some hc1 ha1) hb1
  refine ⟨?_, by unfold SOwn; rw [List.map_append]; exact ho, fun j hj => Own.grewOther (lists' j hj) gs' hg (by decide), fun j hj hG => ?_, ?_, ?_, ?_, h.baseB, h.oldO, h.oldL⟩
  · have o1 := h.outerIn hk h2.frame
    rcases hg with ⟨g1, e1, rfl, hc, hcc, hg⟩ | ⟨g1, e1, hs, hg⟩
    · refine Own.grownNe o1 hg fun g2 hc2 ha2 e2 => ?_
      injection e2 with e2
      subst e2
      have := h.oldO _ hc2 ha2
      obtain ⟨g3, e3, hb3, _⟩ := Own.block gs' hc
      rw [e1] at e3
      injection e3 with e3; injection e3 with e3
      omega
    · exact Own.grownNone o1 hg
  · by_cases e : j = k
    · subst e
      have eG : (G ++ [(⟨a, (L[j]).n + 70, c⟩ : Sl)])[j] = ⟨a, (L[j]).n + 70, c⟩ := by
        rw [List.getElem_append_right (by omega)]; simp [hGl]
      rw [eG]
      refine ⟨rfl, Own.grewOther h2.row gs' hg (by decide), fun g1 hb1 => ?_⟩
      have hb2 : c ≠ 0 ∧ ∃ x, a = some x ∧ x.block = g1 := by
        simp only [Sl.blk] at hb1
        split at hb1
        · cases hb1
        · rename_i hc
          exact ⟨hc, by simpa [Option.map_eq_some_iff] using hb1⟩
      obtain ⟨hc, x, rfl, rfl⟩ := hb2
      obtain ⟨g3, e3, _, _⟩ := Own.block h2.row (by omega)
      injection e3 with e3
      subst e3
      rcases h2.place g3 (by omega) rfl with hp | hp
      · exact .inl hp
      · exact .inr (Nat.le_trans h.size hp)
    · have hjk : j < k := by simp at hG; omega
      have eG : (G ++ [(⟨a, (L[k]).n + 70, c⟩ : Sl)])[j] = G[j]'(by omega) := List.getElem_append_left (by omega)
      rw [eG]
      obtain ⟨e1, e2, e3⟩ := h.done j hj (by omega)
      refine ⟨e1, Own.grewOther (Own.grownNe e2 h2.frame fun g1 hc1 ha1 hb1 => ?_) gs' hg (by decide), e3⟩
      rcases e3 g1 (Sl.blk_some hc1 ha1) with h5 | h5
      · exact hd j k hj hk e g1 h5 hb1
      · have := h.oldL k hk g1 hb1
        omega
  · have f1 : BelowT base L wk wr := by
      refine ⟨⟨h2.frame.os, h2.frame.tape, h2.frame.output, h2.frame.size, fun b hb => h2.frame.block b (by have := h.size; have := h.baseB; omega) fun e => ?_⟩, fun b hb => h2.frame.block b hb.lt fun e => ?_⟩
      · obtain ⟨hc2, ha2⟩ := (h.lists k hk).blk e.symm
        obtain ⟨g3, e3, hb3, _⟩ := Own.block (h.lists k hk) hc2
        rw [ha2] at e3
        injection e3 with e3; injection e3 with e3
        omega
      · obtain ⟨hc2, ha2⟩ := (h.lists k hk).blk e.symm
        exact hb.elim (BOwn.notNB (h.lists k hk) hc2 ha2) (fun h => h.2 k hk e.symm)
    have f2 := h.below.trans f1
    have hs := h.size
    have hbB := h.baseB
    have hwB := h.wB
    have hfs := h2.frame.size
    rcases hg with ⟨g1, e1, rfl, hc, hcc, hg⟩ | ⟨g1, e1, hs1, hg⟩
    · obtain ⟨g3, e3, hb3, _⟩ := Own.block gs' hc
      rw [e1] at e3
      injection e3 with e3; injection e3 with e3
      exact f2.grown hg (by omega) (fun b hb => by injection hb with hb; omega)
    · exact f2.grown hg (by omega) (fun b hb => by cases hb)
  · have := h.size
    have := h2.frame.size
    have := hg.grew.size
    omega
  · exact h.wB

/-- phase 3: what is looked at -/
theorem TSt2.look {base : Nat} {als : Option Addr} {cls : Nat} {L : List Sl} {w : World} {B : Nat} {ags : Option Addr} {cgs : Nat} {G : List Sl} {wr : World} (h : TSt2 base als cls L w B L.length ags cgs G wr) (k : Nat) (hk : k < L.length) :
    ∃ gl gg h c, als = some ⟨gl, 0, none⟩ ∧ ags = some ⟨gg, 0, none⟩ ∧ wr.cell? ⟨gl, k, none⟩ = some (.slice (L[k]).a (L[k]).n (L[k]).c) ∧ wr.cell? ⟨gg, k, none⟩ = some (.slice (some ⟨h, 0, none⟩) ((L[k]).n + 70) c) ∧
      (∀ i, i < (L[k]).n + 70 → wr.cell? ⟨h, i, none⟩ = some (.int .u8 ((mrk ((k : Int) + 1) (i : Int)).toNat : Int))) ∧
      (∀ i, i < (L[k]).n → ∃ g, (L[k]).a = some ⟨g, 0, none⟩ ∧ wr.cell? ⟨g, i, none⟩ = some (.int .u8 ((mrk ((k : Int) + 1) (i : Int)).toNat : Int))) := by
  obtain ⟨gl, e1, _, _, c1, _⟩ := Own.cell h.outer k (by simpa using hk)
  obtain ⟨gg, e2, _, _, c2, _⟩ := Own.cell h.gs k (by simpa [h.gs.len] using hk)
  have hG : k < G.length := by rw [h.gs.len]; exact hk
  obtain ⟨d1, d2, _⟩ := h.done k hk hG
  obtain ⟨hh, e3, _, _, _, _⟩ := Own.cell d2 0 (by simp [mkl_length])
  refine ⟨gl, gg, hh, (G[k]).c, e1, e2, by rw [c1]; simp [Sl.val], by rw [c2]; simp [Sl.val, e3, d1], fun i hi => ?_, fun i hi => ?_⟩
  · obtain ⟨h', e4, _, _, c4, _⟩ := Own.cell d2 i (by simp [mkl_length]; omega)
    rw [e3] at e4
    injection e4 with e4; injection e4 with e4
    subst e4
    rw [c4]
    simp [bval, mkl]
  · obtain ⟨g, e4, _, _, c4, _⟩ := Own.cell (h.lists k hk) i (by simp [mkl_length]; omega)
    exact ⟨g, e4, by rw [c4]; simp [bval, mkl]⟩

set_option maxRecDepth 100000 in
set_option maxHeartbeats 1000000 in
theorem apartT_any (base : Nat) (als : Option Addr) (cls : Nat) (L : List Sl) (w : World) (hs : TSt1 base als cls L w 0 0 w) (hb : base ≤ w.heap.size) (hd : Distinct L) (hK : L.length ≤ 100000000) (hN : ∀ j (hj : j < L.length), (L[j]).n ≤ 100000000) :
    Calls Try.prog 20 #[.slice als L.length cls] w fun e w' => e = .returned (.bool true) ∧ BelowT base L w w' := by
  have HD : Hid (Distinct L) := hd
  have HN : Hid (∀ j (hj : j < L.length), (L[j]).n ≤ 100000000) := hN
  clear hd hN
  go_enter Try.func20, Try.ntmps20
  go_wp2_with fail
  go_loopw [3] (fun i wr => ∃ k : Nat, k ≤ L.length ∧ i = .int .i64 k ∧ TSt1 base als cls L w k 0 wr) (fun i _ => L.length - (intOf i).toNat)
  case atStart => exact ⟨0, by omega, rfl, hs⟩
  case round =>
    obtain ⟨k, hk, rfl, hst⟩ := hrel
    by_cases hlt : k < L.length
    · go_wp2_with fail
      obtain ⟨wo, rfl⟩ : ∃ wo : World, wo = wr := ⟨_, rfl⟩
      go_loopw [4] (fun i wr => ∃ j : Nat, j ≤ (L[k]).n ∧ i = .int .i64 j ∧ TSt1 base als cls L w k j wr) (fun i _ => (L[k]).n - (intOf i).toNat)
      case atStart => exact ⟨0, by omega, rfl, hst⟩
      case round =>
        obtain ⟨j, hj, rfl, hst⟩ := hrel
        have HST : Hid (TSt1 base als cls L w k j wr) := hst
        clear hst
        obtain ⟨gs, rfl, _, _, hcs, _⟩ := Own.cell HST.out.outer k (by simpa using hlt)
        have hcs' : wr.cell? ⟨gs, k, none⟩ = some (.slice (L[k]).a (L[k]).n (L[k]).c) := by rw [hcs]; simp [Sl.val]
        clear hcs
        have hn := HN.out k hlt
        by_cases hjt : j < (L[k]).n
        · obtain ⟨g, ha, ⟨u, hu⟩, hf, hst'⟩ := HST.out.store HD.out hlt hjt
          rw [ha] at hcs'
          have HA : Hid ((L[k]).a = some ⟨g, 0, none⟩) := ha
          clear ha
          go_wp2_with fail
          have hw1 : IntKind.i64.wrap ((k : Int) + 1) = (k : Int) + 1 := IntWalk.i64_in _ (by omega)
          refine wp_region_still_tail 10 (by kernel_rfl) (by kernel_rfl) ?_
          simp only [List.take_succ_cons, List.take_zero, List.drop_succ_cons, List.drop_zero]
          repeat still_step
          still_call ((mark_any _ _ _ (by omega) (by omega)).mono fun e w' ⟨he, hw⟩ => ⟨he, hw.symm⟩)
          repeat still_step
          refine wpStill_nil ?_
          change wpList _ _ _ _ _ wr.drew
          go_wp2
          go_roundw
          case rel => exact ⟨j + 1, by omega, by go_num, hst'.drew⟩
          case measure => simp [intOf]; omega
        · obtain rfl : j = (L[k]).n := by omega
          go_wp2_with fail
          go_roundw
          case rel => exact ⟨k + 1, by omega, by go_num, HST.out.next hlt rfl⟩
          case measure => simp [intOf]; omega
    · obtain rfl : k = L.length := by omega
      obtain ⟨wk, rfl⟩ : ∃ wk : World, wk = wr := ⟨_, rfl⟩
      have HS2 : Hid (TSt2 base als cls L w wk.heap.size 0 none 0 [] wk) := TSt2.start hst hb
      clear hst
      go_wp2_with fail
      go_loopw [5, 6] (fun v i wr => ∃ (k : Nat) (ags : Option Addr) (cgs : Nat) (G : List Sl), k ≤ L.length ∧ i = .int .i64 k ∧ v = .slice ags k cgs ∧ TSt2 base als cls L w wk.heap.size k ags cgs G wr) (fun _ i _ => L.length - (intOf i).toNat)
      case atStart => exact ⟨0, none, 0, [], by omega, rfl, rfl, HS2.out⟩
      case round =>
        obtain ⟨k, ags, cgs, G, hk, rfl, rfl, hst⟩ := hrel
        have HST : Hid (TSt2 base als cls L w wk.heap.size k ags cgs G wr) := hst
        clear hst
        by_cases hlt : k < L.length
        · obtain ⟨gs, e1, _, _, hcs, _⟩ := Own.cell HST.out.outer k (by simpa using hlt)
          have hcs' : wr.cell? ⟨gs, k, none⟩ = some (.slice (L[k]).a (L[k]).n (L[k]).c) := by rw [hcs]; simp [Sl.val]
          clear hcs
          obtain rfl := e1
          go_wp2_with fail
          obtain ⟨wo, rfl⟩ : ∃ wo : World, wo = wr := ⟨_, rfl⟩
          go_loopw [7, 8] (fun v i wr => ∃ (m : Nat) (a : Option Addr) (c : Nat), m ≤ 70 ∧ i = .int .i64 m ∧ v = .slice a ((L[k]).n + m) c ∧ In2 base L k hlt wo m a c wr) (fun _ i _ => 70 - (intOf i).toNat)
          case atStart => exact ⟨0, _, _, by omega, rfl, rfl, In2.startT HST.out hlt⟩
          case round =>
            obtain ⟨m, a, c, hm, rfl, rfl, hin⟩ := hrel
            have HIN : Hid (In2 base L k hlt wo m a c wr) := hin
            clear hin
            obtain ⟨gs2, e1, _, _, hcs, _⟩ := Own.cell (HST.out.outerIn hlt HIN.out.frame) k (by simpa using hlt)
            obtain rfl : gs = gs2 := by simpa using e1
            clear e1
            have hcs2 : wr.cell? ⟨gs, k, none⟩ = some (.slice (L[k]).a (L[k]).n (L[k]).c) := by rw [hcs]; simp [Sl.val]
            clear hcs
            have hn := HN.out k hlt
            have hsz : base ≤ wr.heap.size := Nat.le_trans HST.out.baseB (Nat.le_trans HST.out.size HIN.out.frame.size)
            by_cases hm70 : m < 70
            · go_wp2_with (first | (go_at_call 46; refine (mark_any _ _ _ (by omega) (by omega)).mono ?_; rintro e w' ⟨rfl, rfl⟩) | (at_builtin; refine wpList_push elB rfl (.tmp 51) (.tmp 62) rfl rfl HIN.out.row (.int .u8 ((mrk ((k : Int) + 1) (((L[k]).n : Int) + (m : Int))).toNat : Int)) rfl rfl (by unfold maxLen; omega) (by omega) hsz ?_; intro g cap w1 hown1 hgr))
              go_roundw
              case rel => exact ⟨m + 1, _, _, by omega, by go_num, rfl, HIN.out.next hown1 hgr⟩
              case measure => simp [intOf]; omega
            · obtain rfl : m = 70 := by omega
              have hgs : SOwn wr wk.heap.size ags k cgs G := Own.grownNe HST.out.gs HIN.out.frame fun g1 hc1 ha1 hb1 => by
                obtain ⟨hc2, ha2⟩ := (HST.out.lists k hlt).blk hb1
                have h3 := HST.out.gs
                have h4 := HST.out.lists k hlt
                rw [ha1] at h3
                rw [ha2] at h4
                exact own_ne h3 h4 hc1 hc2 (by decide) rfl
              have hszB : wk.heap.size ≤ wr.heap.size := Nat.le_trans HST.out.size HIN.out.frame.size
              go_wp2_with (at_builtin; refine wpList_push elS rfl (.tmp 64) (.tmp 66) rfl rfl hgs (.slice a ((L[k]).n + 70) c) rfl rfl (by unfold maxLen; omega) (by omega) hszB ?_; intro g cap w1 hown1 hgr)
              go_roundw
              case rel => exact ⟨k + 1, _, _, _, by omega, by go_num, rfl, HST.out.next hlt HD.out HIN.out hown1 hgr⟩
              case measure => simp [intOf]; omega
        · obtain rfl : k = L.length := by omega
          obtain ⟨w3, rfl⟩ : ∃ w3 : World, w3 = wr := ⟨_, rfl⟩
          go_wp2_with fail
          go_loopw [9] (fun i wr => ∃ k n : Nat, k ≤ L.length ∧ i = .int .i64 k ∧ wr = w3.drewN n) (fun i _ => L.length - (intOf i).toNat)
          case atStart => exact ⟨0, 0, by omega, rfl, rfl⟩
          case round =>
            obtain ⟨k, n, hk, rfl, rfl⟩ := hrel
            by_cases hlt : k < L.length
            · obtain ⟨gl, gg, h, c, rfl, rfl, c1, c2, c3, c4⟩ := HST.out.look k hlt
              have C3 := Lib.hid c3
              have C4 := Lib.hid c4
              clear c3 c4
              have hn := HN.out k hlt
              go_wp2_with fail
              go_loopw [10] (fun i wr => ∃ j m : Nat, j ≤ (L[k]).n + 70 ∧ i = .int .i64 j ∧ wr = w3.drewN m) (fun i _ => (L[k]).n + 70 - (intOf i).toNat)
              case atStart => exact ⟨0, n, by omega, rfl, rfl⟩
              case round =>
                obtain ⟨j, m, hj, rfl, rfl⟩ := hrel
                by_cases hjt : j < (L[k]).n + 70
                · have c3 := C3.out j hjt
                  by_cases hjn : j < (L[k]).n
                  · obtain ⟨g, ha, c4⟩ := C4.out j hjn
                    rw [ha] at c1
                    have HA := Lib.hid ha
                    clear ha
                    go_wp2_with (go_at_call 46; refine (mark_any _ _ _ (by omega) (by omega)).mono ?_; rintro e w' ⟨rfl, rfl⟩)
                    go_roundw
                    case rel => exact ⟨j + 1, m, by omega, by go_num, rfl⟩
                    case measure => simp [intOf]; omega
                  · have hjd : decide ((j : Int) < ((L[k]).n : Int)) = false := by rw [decide_eq_false_iff_not]; omega
                    go_wp2_with (go_at_call 46; refine (mark_any _ _ _ (by omega) (by omega)).mono ?_; rintro e w' ⟨rfl, rfl⟩)
                    go_roundw
                    case rel => exact ⟨j + 1, m, by omega, by go_num, rfl⟩
                    case measure => simp [intOf]; omega
                · obtain rfl : j = (L[k]).n + 70 := by omega
                  go_wp2_with fail
                  go_roundw
                  case rel => exact ⟨k + 1, m, by omega, by go_num, rfl⟩
                  case measure => simp [intOf]; omega
            · obtain rfl : k = L.length := by omega
              go_wp2_with fail
              go_ret
              exact ⟨rfl, HST.out.below.drewN _⟩

theorem apartT_n (base : Nat) (als : Option Addr) (cls n : Nat) (L : List Sl) (w : World) (hs : TSt1 base als cls L w 0 0 w) (hb : base ≤ w.heap.size) (hd : Distinct L) (hn : L.length = n) (hK : n ≤ 100000000) (hN : ∀ j (hj : j < L.length), (L[j]).n ≤ 100000000) :
    Calls Try.prog 20 #[.slice als n cls] w fun e w' => e = .returned (.bool true) ∧ BelowT base L w w' := by
  subst hn
  exact apartT_any base als cls L w hs hb hd hK hN

/-- a list of lists that the call owns, to be written over -/
theorem tst1_own {w : World} {base : Nat} {a : Option Addr} {n c : Nat} {L : List Sl} (ho : SOwn w base a n c L) (h : ∀ j (hj : j < L.length), ∃ l, BOwn w base (L[j]).a (L[j]).n (L[j]).c l) :
    TSt1 base a c L w 0 0 w := by
  refine ⟨by rw [ho.len]; exact ho, fun j hj => ?_, BelowT.refl _ _ _⟩
  obtain ⟨l, ho⟩ := h j hj
  exact ⟨l, ho, fun h => absurd h (by omega), fun _ => by simp [mkl]⟩

end Go.Proofs.Ytkdmebcfedehiaa
/- Regions that append: what they may count on. -/
namespace Go.Proofs.Ytkdmebcfedehiaa
open Go.RowKit

theorem wp_skip_op {P : Program} {o : Oper} {a : Act} {w w1 : World} {K : Act → World → Prop} {Q : Exit → Act → World → Prop} (h : (execOp a.eval o).run P w = .ok .skip w1) (hk : K (a.put o.dst undef) w1) : o.wp P a w K Q := by
  unfold Oper.wp
  rw [h, Oper.upon_skip]
  exact hk
/-- what a region may count on round an append: of what was there the one row alone may have changed, and it still begins as it did -/
def AppS (w0 : World) (base : Nat) (e : TypeId) (a : Option Addr) (n c : Nat) (xs : List Value) (u : World) : Prop := Ch (In a c) w0 u ∧ Own u base e 1 a n c xs
theorem clo_app (w0 : World) (base : Nat) (e : TypeId) (a : Option Addr) (n c : Nat) (xs : List Value) : Clo (AppS w0 base e a n c xs) := fun _ _ h g => ⟨h.1.then g, Own.ch h.2 (Ch.ofNone g (fun _ => False)) (fun _ _ _ h => h)⟩
theorem clo_and {S T : World → Prop} (h : Clo S) (k : Clo T) : Clo (fun u => S u ∧ T u) := fun u v hs hg => ⟨h u v hs.1 hg, k u v hs.2 hg⟩
theorem clo_row (g : Nat) (t : TypeId) (cs : Array Value) : Clo (fun u => Row u g t cs) := fun _ _ h hg => h.grown hg
theorem own_behind {w w1 : World} {base : Nat} {e : TypeId} {a a2 : Option Addr} {n c c2 : Nat} {xs ys : List Value} (h : Own w base e 1 a n c xs) (h1 : Own w1 base e 1 a2 (n + 1) c2 (xs ++ ys)) (hg : GrewP w w1 a c a2 c2) : Own w1 base e 1 a n c xs := by
  rcases hg with ⟨g, rfl, rfl, hc, rfl, hg⟩ | ⟨g, _, _, hg⟩
  · rcases h1.2 with ⟨h0, _⟩ | ⟨g', cur, ha, hb, hh, hn, hm, hs, ht⟩
    · omega
    · refine ⟨h.1, .inr ⟨g', cur, ha, hb, hh, by omega, hm, hs, ?_⟩⟩
      have h2 := congrArg (List.take (n * 1)) ht
      rw [List.take_take, Nat.min_eq_left (by omega)] at h2
      rw [h2, List.take_left' h.1]
  · exact Own.ch h (Ch.ofNone hg (fun _ => False)) (fun _ _ _ h => h)
theorem row_in {w : World} {g : Nat} {t : TypeId} {cs : Array Value} (h : Row w g t cs) {base : Nat} {e : TypeId} {size : Nat} {a : Option Addr} {n c : Nat} {xs : List Value} (ho : Own w base e size a n c xs) (hne : t ≠ e) : ¬ In a c g := by
  rintro ⟨hc, ha⟩
  rcases ho.2 with ⟨_, h0⟩ | ⟨g', cur, ha', _, hh, _⟩
  · omega
  rw [ha] at ha'
  injection ha' with ha'; injection ha' with ha'
  subst ha'
  have h' : w.heap[g]? = some (.cells cs t (0, 0)) := h
  rw [h'] at hh
  injection hh with hh
  injection hh with _ h2 _
  exact hne h2
theorem run_app_op {P : Program} (w w1 : World) (ev : Operand → Value) {o : Oper} {t : TypeId} (s x : Operand) (ho : o.op = .call { callee := .builtin .append, args := #[s, x], argTypes := #[t, t] }) (v : Value) (h : (Builtin.append_ #[t, t] o.type #[ev s, ev x]).run P w = .ok v w1) : (execOp ev o).run P w = .ok (.value v) w1 := by
  unfold execOp
  simp only [ho, resolve, invoke, builtin, Sem.run_bind, Sem.run_pure, Result.andThen_ok, List.map_toArray, List.map_cons, List.map_nil, h]

end Go.Proofs.Ytkdmebcfedehiaa
/- The book of WireCalls: two lists of lists of bytes, two lists of lists of numbers, in one row; what a push does to them. No walk. -/
namespace Go.Proofs.Ytkdmebcfedehiaa
open Go.RowKit

/-- a list of lists of numbers that the call owns -/
structure LIsI (w : World) (base : Nat) (a : Option Addr) (n c : Nat) (is : List (List Int)) (L : List Sl) : Prop where
  outer : Ints.SOwn w base a n c L
  len : L.length = is.length
  inner : ∀ i (h : i < L.length) (h' : i < is.length), IOwn w base (L[i]).a (L[i]).n (L[i]).c is[i]
  apart : Distinct L

/-- a change of one outer row and of the book's own row leaves what is of another kind -/
theorem Own.chT {W w9 : World} {b e size : Nat} {a : Option Addr} {n c : Nat} {xs : List Value} (h : Own W b e size a n c xs) {b' T : Nat} {a' : Option Addr} {n' c' : Nat} {ys : List Value} (ho : Own W b' T 1 a' n' c' ys) {bk : Nat} (hc : Ch (fun x => In a' c' x ∨ x = bk) W w9) (hne : e ≠ T) (hb : bk < b) : Own w9 b e size a n c xs :=
  Own.ch h hc (fun h0 g ha hi => by
    rcases hi with hi | hi
    · have h1 := h
      have h2 := ho
      rw [ha] at h1
      rw [hi.2] at h2
      exact own_ne h1 h2 h0 hi.1 hne rfl
    · have := (Own.inn h (g := g) ⟨h0, ha⟩).1
      omega)
/-- rows of one kind that do not meet -/
theorem Own.chN {W w9 : World} {b e size : Nat} {a : Option Addr} {n c : Nat} {xs : List Value} (h : Own W b e size a n c xs) {a' : Option Addr} {c' bk : Nat} (hc : Ch (fun x => In a' c' x ∨ x = bk) W w9) (hd : ∀ x, In a c x → In a' c' x → False) (hb : bk < b) : Own w9 b e size a n c xs :=
  Own.ch h hc (fun h0 g ha hi => by
    rcases hi with hi | hi
    · exact hd g ⟨h0, ha⟩ hi
    · have := (Own.inn h (g := g) ⟨h0, ha⟩).1
      omega)
theorem Row.chT {W w9 : World} {g t : Nat} {cs : Array Value} (h : Row W g t cs) {b' T : Nat} {a' : Option Addr} {n' c' : Nat} {ys : List Value} (ho : Own W b' T 1 a' n' c' ys) {bk : Nat} (hc : Ch (fun x => In a' c' x ∨ x = bk) W w9) (hne : t ≠ T) (hb : g ≠ bk) : Row w9 g t cs :=
  h.ch hc (fun hi => by
    rcases hi with hi | hi
    · exact row_in h ho hne hi
    · exact hb hi)
/-- lists of bytes: the outer row of others of the same kind has turned -/
theorem LIs.chN {W w9 : World} {b : Nat} {a : Option Addr} {n c : Nat} {bs : List (List UInt8)} {L : List Sl} (h : LIs W b a n c bs L) {b' : Nat} {a' : Option Addr} {n' c' : Nat} {ys : List Value} (ho : Own W b' 24 1 a' n' c' ys) {bk : Nat} (hc : Ch (fun x => In a' c' x ∨ x = bk) W w9) (hd : ∀ x, In a c x → In a' c' x → False) (hb : bk < b) : LIs w9 b a n c bs L :=
  ⟨Own.chN h.outer hc hd hb, h.len, fun i h1 h2 => Own.chT (h.inner i h1 h2) ho hc (by decide) hb, h.apart⟩
theorem LIs.chT {W w9 : World} {b : Nat} {a : Option Addr} {n c : Nat} {bs : List (List UInt8)} {L : List Sl} (h : LIs W b a n c bs L) {b' : Nat} {a' : Option Addr} {n' c' : Nat} {ys : List Value} (ho : Own W b' 23 1 a' n' c' ys) {bk : Nat} (hc : Ch (fun x => In a' c' x ∨ x = bk) W w9) (hb : bk < b) : LIs w9 b a n c bs L :=
  ⟨Own.chT h.outer ho hc (by decide) hb, h.len, fun i h1 h2 => Own.chT (h.inner i h1 h2) ho hc (by decide) hb, h.apart⟩
theorem LIsI.chN {W w9 : World} {b : Nat} {a : Option Addr} {n c : Nat} {is : List (List Int)} {L : List Sl} (h : LIsI W b a n c is L) {b' : Nat} {a' : Option Addr} {n' c' : Nat} {ys : List Value} (ho : Own W b' 23 1 a' n' c' ys) {bk : Nat} (hc : Ch (fun x => In a' c' x ∨ x = bk) W w9) (hd : ∀ x, In a c x → In a' c' x → False) (hb : bk < b) : LIsI w9 b a n c is L :=
  ⟨Own.chN h.outer hc hd hb, h.len, fun i h1 h2 => Own.chT (h.inner i h1 h2) ho hc (by decide) hb, h.apart⟩
theorem LIsI.chT {W w9 : World} {b : Nat} {a : Option Addr} {n c : Nat} {is : List (List Int)} {L : List Sl} (h : LIsI W b a n c is L) {b' : Nat} {a' : Option Addr} {n' c' : Nat} {ys : List Value} (ho : Own W b' 24 1 a' n' c' ys) {bk : Nat} (hc : Ch (fun x => In a' c' x ∨ x = bk) W w9) (hb : bk < b) : LIsI w9 b a n c is L :=
  ⟨Own.chT h.outer ho hc (by decide) hb, h.len, fun i h1 h2 => Own.chT (h.inner i h1 h2) ho hc (by decide) hb, h.apart⟩
theorem LIsI.grown {w w' : World} {base : Nat} {a : Option Addr} {n c : Nat} {bs : List (List Int)} {L : List Sl} (h : LIsI w base a n c bs L) (hg : w.grownBy w' none) : LIsI w' base a n c bs L :=
  ⟨Own.grownNone h.outer hg, h.len, fun i h1 h2 => Own.grownNone (h.inner i h1 h2) hg, h.apart⟩

/-- none of their blocks is one of X -/
def Offs (X : Nat → Prop) (a : Option Addr) (c : Nat) (L : List Sl) : Prop := (∀ x, In a c x → ¬ X x) ∧ ∀ i (h : i < L.length) x, In (L[i]).a (L[i]).c x → ¬ X x
theorem Offs.push {X : Nat → Prop} {a : Option Addr} {c : Nat} {L : List Sl} (h : Offs X a c L) {a2 : Option Addr} {c2 : Nat} (h2 : ∀ x, In a2 c2 x → In a c x ∨ ¬ X x) {s : Sl} (hs : ∀ x, In s.a s.c x → ¬ X x) : Offs X a2 c2 (L ++ [s]) := by
  refine ⟨fun x hx => (h2 x hx).elim (fun h3 => h.1 x h3) id, fun i hi x hx => ?_⟩
  by_cases e : i < L.length
  · rw [List.getElem_append_left e] at hx
    exact h.2 i e x hx
  · simp only [List.length_append, List.length_singleton] at hi
    obtain rfl : i = L.length := by omega
    have e2 : (L ++ [s])[L.length] = s := by simp
    rw [e2] at hx
    exact hs x hx
theorem LIs.offs {w : World} {base : Nat} {a : Option Addr} {n c : Nat} {bs : List (List UInt8)} {L : List Sl} (h : LIs w base a n c bs L) {X : Nat → Prop} (hX : ∀ x, X x → w.heap.size ≤ x) : Offs X a c L :=
  ⟨fun x hx hn => by have := (Own.inn h.outer hx).2; have := hX x hn; omega, fun i hi x hx hn => by have := (Own.inn (h.inner i hi (by have := h.len; omega)) hx).2; have := hX x hn; omega⟩
theorem LIsI.offs {w : World} {base : Nat} {a : Option Addr} {n c : Nat} {bs : List (List Int)} {L : List Sl} (h : LIsI w base a n c bs L) {X : Nat → Prop} (hX : ∀ x, X x → w.heap.size ≤ x) : Offs X a c L :=
  ⟨fun x hx hn => by have := (Own.inn h.outer hx).2; have := hX x hn; omega, fun i hi x hx hn => by have := (Own.inn (h.inner i hi (by have := h.len; omega)) hx).2; have := hX x hn; omega⟩
theorem LIs.chX {w w' : World} {base : Nat} {a : Option Addr} {n c : Nat} {bs : List (List UInt8)} {L : List Sl} (h : LIs w base a n c bs L) {X : Nat → Prop} (ho : Offs X a c L) {g : Nat} (hg : w.grownBy w' (some g)) (hX : X g) : LIs w' base a n c bs L :=
  ⟨Own.grownNe h.outer hg (fun g' h0 e e2 => by injection e2 with e2; subst e2; exact ho.1 _ ⟨h0, e⟩ hX), h.len, fun i h1 h2 => Own.grownNe (h.inner i h1 h2) hg (fun g' h0 e e2 => by injection e2 with e2; subst e2; exact ho.2 i h1 _ ⟨h0, e⟩ hX), h.apart⟩
theorem LIsI.chX {w w' : World} {base : Nat} {a : Option Addr} {n c : Nat} {bs : List (List Int)} {L : List Sl} (h : LIsI w base a n c bs L) {X : Nat → Prop} (ho : Offs X a c L) {g : Nat} (hg : w.grownBy w' (some g)) (hX : X g) : LIsI w' base a n c bs L :=
  ⟨Own.grownNe h.outer hg (fun g' h0 e e2 => by injection e2 with e2; subst e2; exact ho.1 _ ⟨h0, e⟩ hX), h.len, fun i h1 h2 => Own.grownNe (h.inner i h1 h2) hg (fun g' h0 e e2 => by injection e2 with e2; subst e2; exact ho.2 i h1 _ ⟨h0, e⟩ hX), h.apart⟩

theorem Sl.in_blk {s : Sl} {g : Nat} : s.blk = some g ↔ (s.c ≠ 0 ∧ ∃ x, s.a = some x ∧ x.block = g) := by
  unfold Sl.blk
  split
  · rename_i h; simp [h]
  · rename_i h; simp [h, Option.map_eq_some_iff]
/-- one list more behind lists that lie apart: the new one has a block that none of them has -/
theorem distinct_snoc {L : List Sl} (h : Distinct L) {s : Sl} (hs : ∀ i (hi : i < L.length) g, (L[i]).blk = some g → s.blk ≠ some g) : Distinct (L ++ [s]) := by
  intro i j hi hj hij g hgi hgj
  simp only [List.length_append, List.length_singleton] at hi hj
  by_cases ei : i < L.length
  · by_cases ej : j < L.length
    · rw [List.getElem_append_left ei] at hgi
      rw [List.getElem_append_left ej] at hgj
      exact h i j ei ej hij g hgi hgj
    · obtain rfl : j = L.length := by omega
      rw [List.getElem_append_left ei] at hgi
      have e2 : (L ++ [s])[L.length]'(by simp) = s := by simp
      rw [e2] at hgj
      exact hs i ei g hgi hgj
  · obtain rfl : i = L.length := by omega
    have ej : j < L.length := by omega
    rw [List.getElem_append_left ej] at hgj
    have e2 : (L ++ [s])[L.length]'(by simp) = s := by simp
    rw [e2] at hgi
    exact hs j ej g hgj hgi
theorem Own.blk' {w : World} {base e size : Nat} {s : Sl} {xs : List Value} (h : Own w base e size s.a s.n s.c xs) {g : Nat} (hb : s.blk = some g) : In s.a s.c g := by
  obtain ⟨hc, x, ha, hx⟩ := Sl.in_blk.1 hb
  obtain ⟨g', e1, _, _⟩ := Own.block h (by omega)
  rw [ha] at e1
  injection e1 with e1
  subst e1
  simp only at hx
  subst hx
  exact ⟨by omega, ha⟩
/-- a push: the lists as they lay in w0 (before the piece was made), at w1 (the piece is there) and w9 (pushed) -/
theorem LIs.pushed {w0 w1 w9 : World} {base : Nat} {a : Option Addr} {n c : Nat} {bs : List (List UInt8)} {L : List Sl} (h0 : LIs w0 base a n c bs L) (h1 : LIs w1 base a n c bs L) (hb : base ≤ w0.heap.size)
    {s : Sl} {b : List UInt8} (hp : BOwn w1 w0.heap.size s.a s.n s.c b) {a2 : Option Addr} {c2 bk : Nat}
    (hs : Own w9 base 24 1 a2 (n + 1) c2 (L.map Sl.val ++ [s.val])) (hc : Ch (fun x => In a c x ∨ x = bk) w1 w9) (hbk : bk < base) : LIs w9 base a2 (n + 1) c2 (bs ++ [b]) (L ++ [s]) := by
  refine ⟨?_, by simp [h0.len], ?_, distinct_snoc h0.apart fun i hi g hg1 hg2 => ?_⟩
  · unfold SOwn; rw [List.map_append]; exact hs
  · intro i hi hi'
    by_cases e : i < L.length
    · have e' : i < bs.length := by have := h0.len; omega
      have g1 : (L ++ [s])[i]'hi = L[i] := List.getElem_append_left e
      have g2 : (bs ++ [b])[i]'hi' = bs[i] := List.getElem_append_left e'
      rw [g1, g2]
      exact Own.chT (h1.inner i e e') h1.outer hc (by decide) hbk
    · simp only [List.length_append, List.length_singleton] at hi
      obtain rfl : i = L.length := by omega
      have e2 : (L ++ [s])[L.length] = s := by simp
      have e3 : (bs ++ [b])[L.length]'hi' = b := by simp [h0.len]
      rw [e2, e3]
      exact BOwn.mono (Own.chT hp h1.outer hc (by decide) (by omega)) hb
  · have x1 := (Own.inn (h0.inner i hi (by have := h0.len; omega)) (Own.blk' (h0.inner i hi (by have := h0.len; omega)) hg1)).2
    have x2 := (Own.inn hp (Own.blk' hp hg2)).1
    omega
theorem LIsI.pushed {w0 w1 w9 : World} {base : Nat} {a : Option Addr} {n c : Nat} {bs : List (List Int)} {L : List Sl} (h0 : LIsI w0 base a n c bs L) (h1 : LIsI w1 base a n c bs L) (hb : base ≤ w0.heap.size)
    {s : Sl} {b : List Int} (hp : IOwn w1 w0.heap.size s.a s.n s.c b) {a2 : Option Addr} {c2 bk : Nat}
    (hs : Own w9 base 23 1 a2 (n + 1) c2 (L.map Sl.val ++ [s.val])) (hc : Ch (fun x => In a c x ∨ x = bk) w1 w9) (hbk : bk < base) : LIsI w9 base a2 (n + 1) c2 (bs ++ [b]) (L ++ [s]) := by
  refine ⟨?_, by simp [h0.len], ?_, distinct_snoc h0.apart fun i hi g hg1 hg2 => ?_⟩
  · unfold Ints.SOwn; rw [List.map_append]; exact hs
  · intro i hi hi'
    by_cases e : i < L.length
    · have e' : i < bs.length := by have := h0.len; omega
      have g1 : (L ++ [s])[i]'hi = L[i] := List.getElem_append_left e
      have g2 : (bs ++ [b])[i]'hi' = bs[i] := List.getElem_append_left e'
      rw [g1, g2]
      exact Own.chT (h1.inner i e e') h1.outer hc (by decide) hbk
    · simp only [List.length_append, List.length_singleton] at hi
      obtain rfl : i = L.length := by omega
      have e2 : (L ++ [s])[L.length] = s := by simp
      have e3 : (bs ++ [b])[L.length]'hi' = b := by simp [h0.len]
      rw [e2, e3]
      exact Own.mono (Own.chT hp h1.outer hc (by decide) (by omega)) hb
  · have x1 := (Own.inn (h0.inner i hi (by have := h0.len; omega)) (Own.blk' (h0.inner i hi (by have := h0.len; omega)) hg1)).2
    have x2 := (Own.inn hp (Own.blk' hp hg2)).1
    omega
/-- the book -/
def Book (w : World) (bk base : Nat) (bs : List (List UInt8)) (is : List (List Int)) : Prop :=
  ∃ a0 n c0 L0 a1 c1 L1 a2 m c2 M0 a3 c3 M1, Row w bk 55 #[.slice a0 n c0, .slice a1 n c1, .slice a2 m c2, .slice a3 m c3] ∧ LIs w base a0 n c0 bs L0 ∧ LIs w base a1 n c1 bs L1 ∧ LIsI w base a2 m c2 is M0 ∧ LIsI w base a3 m c3 is M1 ∧ (∀ x, In a0 c0 x → In a1 c1 x → False) ∧ (∀ x, In a2 c2 x → In a3 c3 x → False)
theorem Book.grown {w w' : World} {bk base : Nat} {bs : List (List UInt8)} {is : List (List Int)} (h : Book w bk base bs is) (hg : w.grownBy w' none) : Book w' bk base bs is := by
  obtain ⟨a0, n, c0, L0, a1, c1, L1, a2, m, c2, M0, a3, c3, M1, k1, k2, k3, k4, k5, k6, k7⟩ := h
  exact ⟨a0, n, c0, L0, a1, c1, L1, a2, m, c2, M0, a3, c3, M1, k1.grown hg, k2.grown hg, k3.grown hg, k4.grown hg, k5.grown hg, k6, k7⟩
end Go.Proofs.Ytkdmebcfedehiaa
/- The document's number, big, at, head (strongroomref20). Printed by gens/wirerefb.py. -/
namespace Go.Proofs.Ytkdmebcfedehiaa
open Go.RowKit

theorem bigL_get : ∀ (k x i : Nat) (h : i < (bigL k x).length), (bigL k x)[i] = UInt8.ofNat (x / 256 ^ (k - 1 - i)) := by
  intro k
  induction k with
  | zero => intro x i h; simp [bigL] at h
  | succ k ih =>
    intro x i h
    simp only [bigL]
    by_cases hi : i < k
    · rw [List.getElem_append_left (by rw [bigL_length]; exact hi), ih, Nat.div_div_eq_div_mul]
      congr 2
      rw [Nat.mul_comm, ← Nat.pow_succ]
      congr 1
      omega
    · have : i = k := by simp [bigL_length] at h; omega
      subst this
      rw [List.getElem_append_right (by rw [bigL_length]; exact Nat.le_refl _)]
      simp [bigL_length]

theorem shr_byte (x j : Nat) : (x : Int) / 2 ^ (8 * j) % 256 = ((UInt8.ofNat (x / 256 ^ j)).toNat : Int) := by
  have e : (2 : Int) ^ (8 * j) = ((256 ^ j : Nat) : Int) := by
    rw [show (256 : Nat) = 2 ^ 8 from rfl, ← Nat.pow_mul, Int.natCast_pow]
    rfl
  rw [u8i, e]
  rfl
theorem bigL_take_succ (k x m : Nat) (h : m < k) : (bigL k x).take (m + 1) = (bigL k x).take m ++ [UInt8.ofNat (x / 256 ^ (k - m - 1))] := by
  rw [List.take_succ_eq_append_getElem (by rw [bigL_length]; exact h), bigL_get, show k - 1 - m = k - m - 1 from by omega]


set_option maxRecDepth 100000 in
set_option maxHeartbeats 400000 in
theorem refNum_n (x : Int) (w : World) : Calls Try.prog 70 #[.int .i64 x] w fun e w' => e = .returned (.bool (decide (0 ≤ x) && decide (x < 255))) ∧ w = w' := by
  by_cases h : 0 ≤ x
  · have e0 : decide (0 ≤ x) = true := decide_eq_true h
    go_enter Try.func70, Try.ntmps70
    go_wp2
    go_ret
    exact ⟨ret_bool (by simp [e0]), rfl⟩
  · have e0 : decide (0 ≤ x) = false := decide_eq_false h
    go_enter Try.func70, Try.ntmps70
    go_wp2
    go_ret
    exact ⟨ret_bool (by simp), rfl⟩

set_option maxRecDepth 100000 in
set_option maxHeartbeats 400000 in
theorem refBig_n (x : Nat) (k : Nat) (hx : x ≤ 9223372036854775807) (hk : k ≤ 8) (w : World) : Calls Try.prog 61 #[.int .i64 (x : Int), .int .i64 (k : Int)] w fun e w' => ∃ a c, e = .returned (.slice a k c) ∧ BOwn w' w.heap.size a k c (bigL k x) ∧ w.grownBy w' none := by
  have hwx : IntKind.u64.wrap (x : Int) = (x : Int) := IntWalk.u64_in _ (by omega)
  go_enter Try.func61, Try.ntmps61
  go_wp2
  go_loopw [5, 6] (fun v i wr => ∃ (m : Nat) (a : Option Addr) (c : Nat), m ≤ k ∧ i = .int .i64 ((k : Int) - (m : Int) - 1) ∧ v = .slice a m c ∧ BOwn wr w.heap.size a m c ((bigL k x).take m) ∧ w.grownBy wr none) (fun _ i _ => (intOf i + 1).toNat)
  case atStart => exact ⟨0, none, 0, by omega, by go_num, rfl, Own.nil _ _ _ _ _, World.grownBy.refl _ _⟩
  case round =>
    obtain ⟨m, a, c, hm, rfl, rfl, hown, hg⟩ := hrel
    have hsz := hg.size
    by_cases hlt : m < k
    · go_wp2_with (at_builtin; refine wpList_push elB rfl (.tmp 13) (.tmp 21) rfl rfl hown (.int .u8 ((x : Int) / 2 ^ (8 * (k - m - 1)) % 256)) rfl rfl (by unfold maxLen; omega) (by omega) hsz ?_; intro g cap w1 hown1 hgr)
      go_roundw
      case rel => exact ⟨m + 1, _, _, by omega, by go_num, rfl, by unfold BOwn; rw [bigL_take_succ _ _ _ hlt, List.map_append]; rw [shr_byte] at hown1; exact hown1, hgr.grew.grown hown hg (Nat.le_refl _)⟩
      case measure => simp [intOf]; omega
    · obtain rfl : m = k := by omega
      go_wp2
      go_ret
      exact ⟨a, c, rfl, by rw [List.take_of_length_le (by rw [bigL_length]; exact Nat.le_refl _)] at hown; exact hown, hg⟩

theorem getN_succ {l : List UInt8} {p k : Nat} (h : p + k < l.length) : getN l p (k + 1) = getN l p k * 256 + (l.getD (p + k) 0).toNat := by
  unfold getN
  have e : k < (l.drop p).length := by rw [List.length_drop]; omega
  rw [List.take_succ_eq_append_getElem e, smallL_snoc]
  congr 2
  simp [h]
theorem getN_bound (l : List UInt8) (p k : Nat) : getN l p k < 256 ^ k := by
  unfold getN
  have h := smallL_lt _ ((l.drop p).take k) rfl
  have h2 : 256 ^ ((l.drop p).take k).length ≤ 256 ^ k := Nat.pow_le_pow_right (by omega) (by rw [List.length_take]; omega)
  omega
set_option maxRecDepth 100000 in
set_option maxHeartbeats 400000 in
theorem refAt_n (a : Option Addr) (n c p k : Nat) (l : List UInt8) (w : World) (ha : BLies w a l) (hl : l.length = n) (hn : n ≤ maxLen) (hk : k ≤ 8) (hp : p + k ≤ n) :
    Calls Try.prog 63 #[.slice a n c, .int .i64 (p : Int), .int .i64 (k : Int)] w fun e w' => e = .returned (.int .u64 ((getN l p k : Nat) : Int)) ∧ w = w' := by
  unfold maxLen at hn
  have HA := Lib.hid ha
  have HN := Lib.hid hl
  clear ha hl
  go_enter Try.func63, Try.ntmps63
  go_wp2
  go_loop [7, 8] (fun x i => ∃ j : Nat, j ≤ k ∧ i = .int .i64 (j : Int) ∧ x = .int .u64 ((getN l p j : Nat) : Int)) (fun _ i => k - (intOf i).toNat)
  case atStart => exact ⟨0, by omega, rfl, by simp [getN, smallL]⟩
  case round =>
    obtain ⟨j, hj, rfl, rfl⟩ := hrel
    by_cases hlt : j < k
    · obtain ⟨b, off, ha, hc⟩ := bytes_cells HA.out (by rw [HN.out]; omega)
      have hcj := hc (p + j) (by rw [HN.out]; omega)
      subst ha
      have hcj2 : w.cell? ⟨b, off + (p + j), none⟩ = some (.int .u8 ((l.getD (p + j) 0).toNat : Int)) := hcj
      have HB := Lib.hid (getN_bound l p j)
      have HS := Lib.hid (getN_succ (l := l) (p := p) (k := j) (by rw [HN.out]; omega))
      have hle : getN l p j ≤ 72057594037927935 := by
        have h2 : 256 ^ j ≤ 256 ^ 7 := Nat.pow_le_pow_right (by omega) (by omega)
        have := HB.out
        omega
      obtain ⟨V, hV⟩ : ∃ V, V = getN l p j := ⟨_, rfl⟩
      obtain ⟨B, hB⟩ : ∃ B, B = (l.getD (p + j) 0).toNat := ⟨_, rfl⟩
      have hb : B < 256 := by rw [hB]; exact (l.getD (p + j) 0).toNat_lt
      rw [← hB] at hcj2
      rw [← hV] at hle
      rw [← hV]
      have HV := Lib.hid hV
      have HBB := Lib.hid hB
      clear hc hcj hV hB
      go_wp2
      go_round
      case rel => exact ⟨j + 1, by omega, by go_num, by rw [HS.out, ← HV.out, ← HBB.out]; go_num⟩
      case measure => simp [intOf]; omega
    · obtain rfl : j = k := by omega
      go_wp2
      go_ret
      exact ⟨rfl, rfl⟩

set_option maxRecDepth 100000 in
set_option maxHeartbeats 400000 in
theorem refHead_n (k : Nat) (w : World) : Calls Try.prog 62 #[.int .u8 (k : Int)] w fun e w' => e = .returned (.int .i64 ((headQ k : Nat) : Int)) ∧ w = w' := by
  by_cases h1 : k = 1
  · subst h1
    go_enter Try.func62, Try.ntmps62
    go_wp2
    go_ret
    exact ⟨rfl, rfl⟩
  by_cases h2 : k = 2
  · subst h2
    go_enter Try.func62, Try.ntmps62
    go_wp2
    go_ret
    exact ⟨rfl, rfl⟩
  by_cases h3 : k = 3
  · subst h3
    go_enter Try.func62, Try.ntmps62
    go_wp2
    go_ret
    exact ⟨rfl, rfl⟩
  by_cases h4 : k = 4
  · subst h4
    go_enter Try.func62, Try.ntmps62
    go_wp2
    go_ret
    exact ⟨rfl, rfl⟩
  by_cases h5 : k = 5
  · subst h5
    go_enter Try.func62, Try.ntmps62
    go_wp2
    go_ret
    exact ⟨rfl, rfl⟩
  have e : headQ k = 0 := by
    unfold headQ
    repeat' split
    all_goals first | rfl | omega
  rw [e]
  have b1 : ((k : Int) == 1) = false := by rw [beq_eq_false_iff_ne]; omega
  have b2 : ((k : Int) == 2) = false := by rw [beq_eq_false_iff_ne]; omega
  have b3 : ((k : Int) == 3) = false := by rw [beq_eq_false_iff_ne]; omega
  have b4 : ((k : Int) == 4) = false := by rw [beq_eq_false_iff_ne]; omega
  have b5 : ((k : Int) == 5) = false := by rw [beq_eq_false_iff_ne]; omega
  go_enter Try.func62, Try.ntmps62
  go_wp2
  go_ret
  exact ⟨rfl, rfl⟩
end Go.Proofs.Ytkdmebcfedehiaa
/- Bytes laid behind bytes: append(out, s...) whatever their numbers; CopyBytes. -/
namespace Go.Proofs.Ytkdmebcfedehiaa
open Go.RowKit

theorem run_app_zero (w : World) (a : Option Addr) (n c : Nat) (hc : n ≤ c) (sa : Option Addr) (sc : Nat) (ty : TypeId) :
    (Builtin.append_ #[24, 24] ty #[.slice a n c, .slice sa 0 sc]).run Try.prog w = .ok (.slice a n c) w := by
  obtain ⟨i, hi, hz, hs, hb⟩ := elB.info
  cases a <;> cases sa <;> simp [Builtin.append_, run_underlying Try.underlying24, sizeOf, typeInfo, hi, hs, Builtin.lenOf, Builtin.firstCells, loadCells, loadCellsFrom, hc]
  all_goals simp [storeCells, Result.andThen]

theorem bcells {w : World} {g o : Nat} {s : List UInt8} (hs : BLies w (some ⟨g, o, none⟩) s) : ∀ j u, (s.map bval)[j]? = some u → w.cell? ((⟨g, o, none⟩ : Addr).add j) = some u := by
  intro j u hj
  have hjl : j < s.length := by
    rcases Nat.lt_or_ge j s.length with h | h
    · exact h
    · rw [List.getElem?_eq_none (by simpa using h)] at hj; cases hj
  rw [List.getElem?_map, List.getElem?_eq_getElem hjl] at hj
  injection hj with hj
  obtain ⟨b, off, e, hc⟩ := hs j hjl
  injection e with e; injection e with e1 e2
  subst e1; subst e2
  have ha : (⟨g, o, none⟩ : Addr).add j = ⟨g, o + j, none⟩ := by unfold Addr.add; split <;> simp_all
  rw [ha, hc, ← hj]
  rfl
end Go.Proofs.Ytkdmebcfedehiaa
/- Pick, append of bytes, the beginning of a list: for lists of up to 2^47 bytes. Printed by gens/bigapp.py. -/
namespace Go.Proofs.Ytkdmebcfedehiaa
open Go.RowKit

/-- append(out, s...) of bytes -/
theorem run_appBL (w : World) {base : Nat} {a : Option Addr} {n c : Nat} {l : List UInt8} (hown : BOwn w base a n c l) (sa : Option Addr) (m sc : Nat) (s : List UInt8) (hs : BLies w sa s) (hm : s.length = m) (hb : n + m ≤ 140737488355328) (hbase : base ≤ w.heap.size) (ty : TypeId) :
    ∃ a' c' w1, (Builtin.append_ #[24, 24] ty #[.slice a n c, .slice sa m sc]).run Try.prog w = .ok (.slice a' (n + m) c') w1 ∧ BOwn w1 base a' (n + m) c' (l ++ s) ∧ Ch (In a c) w w1 ∧ (∀ g, In a' c' g → In a c g ∨ w.heap.size ≤ g) := by
  rcases Nat.eq_zero_or_pos m with h0 | h0
  · subst h0
    obtain rfl : s = [] := List.eq_nil_of_length_eq_zero hm
    exact ⟨a, c, w, run_app_zero w a n c hown.cap.1 sa sc ty, by simpa using hown, Ch.refl _ _, fun g h => .inl h⟩
  · obtain ⟨gb, ob, rfl⟩ := BLies.addr hs (by omega)
    obtain ⟨g, c', w1, hrun, ho, hgr⟩ := run_app (P := Try.prog) (ty := ty) w elB hown ⟨gb, ob, none⟩ m sc (s.map bval) (by simp [hm]) (bcells hs) (fun u hu => by
      obtain ⟨y, _, rfl⟩ := List.mem_map.1 hu
      rfl) (by unfold maxLen; omega) (by omega) hbase (fun _ _ _ => trivial) h0
    refine ⟨_, c', w1, hrun, ?_, GrewP.ch hgr, ?_⟩
    · have : BOwn w1 base (some ⟨g, 0, none⟩) (n + m) c' (l ++ s) := by
        show Own _ _ _ _ _ _ _ _
        rw [List.map_append]
        exact ho
      exact this
    · rintro g2 ⟨hc, e⟩
      injection e with e; injection e with e
      subst e
      rcases hgr with ⟨g1, e1, e2, h3, h4, _⟩ | ⟨g1, e1, h2, _⟩
      · exact .inl ⟨h3, e2⟩
      · injection e1 with e1; injection e1 with e1
        subst e1
        exact .inr h2

theorem wpList_appBL {ops : Array Oper} {rest : List Oper} {o : Oper} {a : Act} {w : World} {Q : Exit → Act → World → Prop} (hg : o.guard = none) (x y : Operand) (ho : o.op = .call { callee := .builtin .append, args := #[x, y], argTypes := #[24, 24] })
    {base : Nat} {a1 : Option Addr} {n c : Nat} {l : List UInt8} {sa : Option Addr} {m sc : Nat} {s : List UInt8} (hx : a.eval x = .slice a1 n c) (hy : a.eval y = .slice sa m sc) (hown : BOwn w base a1 n c l) (hs : BLies w sa s) (hm : s.length = m) (hb : n + m ≤ 140737488355328) (hbase : base ≤ w.heap.size)
    (h : ∀ a' c' w1, BOwn w1 base a' (n + m) c' (l ++ s) → Ch (In a1 c) w w1 → (∀ g, In a' c' g → In a1 c g ∨ w.heap.size ≤ g) → wpList Try.prog ops Q rest (a.put o.dst (.slice a' (n + m) c')) w1) : wpList Try.prog ops Q (o :: rest) a w := by
  obtain ⟨a', c', w1, hr, h1, h2, h3⟩ := run_appBL w hown sa m sc s hs hm hb hbase o.type
  refine wpList_plain hg fun K hK => ?_
  unfold Oper.wp
  simp [execOp, ho, resolve, invoke, builtin, hx, hy, hr, Result.andThen]
  exact hK _ _ (h a' c' w1 h1 h2 h3)

theorem run_pre_opA (w : World) (ev : Operand → Value) {o : Oper} (x h : Operand) (ho : o.op = .slice 24 x none (some h) none) (a : Option Addr) (N c m : Nat) (hx : ev x = .slice a N c) (hh : ev h = .int .i64 (m : Int)) (hm : m ≤ c) :
    (execOp ev o).run Try.prog w = .ok (.value (.slice a m c)) w := by
  have hu : Try.prog.underlying 24 = some (.slice (Try.prog.elem 24)) := by kernel_rfl
  have hz : (sizeOf (Try.prog.elem 24)).run Try.prog w = .ok 1 w := by
    obtain ⟨i, hi, hz, hs, hb⟩ := elB.info
    have he : Try.prog.elem 24 = 5 := by kernel_rfl
    rw [he]
    simp [sizeOf, typeInfo, hi, hs]
  unfold execOp
  simp only [ho, Option.map_some, Option.map_none]
  simp only [Sem.run_bind, run_sliceAt_slice (P := Try.prog) w _ _ _ _ _ hu, hx, hh]
  rw [run_slice_h (P := Try.prog) w _ _ _ _ hu _ _ (by omega) (by omega)]
  have hm0 : a.map (fun a => a.add 0) = a := by cases a <;> simp [Addr.add]
  simp [hz, sliced, hm0]
end Go.Proofs.Ytkdmebcfedehiaa
/- Bytes that grow in a slot, told by what they are alone: a walk's step for each append. -/
namespace Go.Proofs.Ytkdmebcfedehiaa
open Go.RowKit

/-- these bytes, in memory that was not there in wb; of what was there nothing has turned -/
def Acc (wb W : World) (a : Option Addr) (n c : Nat) (l : List UInt8) : Prop := BOwn W wb.heap.size a n c l ∧ wb.grownBy W none
theorem Acc.grown {wb W W' : World} {a : Option Addr} {n c : Nat} {l : List UInt8} (h : Acc wb W a n c l) (hg : W.grownBy W' none) : Acc wb W' a n c l := ⟨h.1.grown hg, grownBy_trans h.2 hg⟩
theorem Acc.len {wb W : World} {a : Option Addr} {n c : Nat} {l : List UInt8} (h : Acc wb W a n c l) : l.length = n := h.1.len
theorem Acc.ch {wb W W' : World} {S : Nat → Prop} {a : Option Addr} {n c : Nat} {l : List UInt8} (h : Acc wb W a n c l) (hg : Ch S W W') (hS : ∀ g, S g → In a c g) : wb.grownBy W' none :=
  Ch.fresh h.2 hg (fun g hg hs => by have := (Own.inn h.1 (hS g hs)).1; omega)
theorem Acc.one {wb W : World} (hg : wb.grownBy W none) {u : Value} {b : UInt8} (hu : u = bval b) : Acc wb (W.alloc (.cells #[u] 5)) (some ⟨W.heap.size, 0, none⟩) 1 1 [b] := by
  subst hu
  exact ⟨(own_array W 5 #[bval b] 1 rfl (by decide)).mono hg.size, grownBy_al hg _⟩
/-- one byte more -/
theorem wpList_accP {ops : Array Oper} {rest : List Oper} {o : Oper} {act : Act} {W wb : World} {Q : Exit → Act → World → Prop} (hg : o.guard = none) (x y : Operand) (ho : o.op = .call { callee := .builtin .append, args := #[x, y], argTypes := #[24, 24] })
    {a : Option Addr} {n c : Nat} {l : List UInt8} (hx : act.eval x = .slice a n c) (hy : act.eval y = .slice (some ⟨W.heap.size, 0, none⟩) 1 1) (h : Acc wb W a n c l) {u : Value} (b : UInt8) (hu : u = bval b) (hb : l.length + 1 ≤ 140737488355328)
    (k : ∀ a' n' c' W', Acc wb W' a' n' c' (l ++ [b]) → wpList Try.prog ops Q rest (act.put o.dst (.slice a' n' c')) W') : wpList Try.prog ops Q (o :: rest) act (W.alloc (.cells #[u] 5)) := by
  have hl := h.len
  refine wpList_push elB hg x y ho hx h.1 u hy (by rw [hu]; rfl) (by unfold maxLen; omega) (by omega) h.2.size ?_
  intro g c' w1 ho1 hgr
  refine k _ _ _ _ ⟨?_, hgr.grew.grown h.1 h.2 (Nat.le_refl _)⟩
  unfold BOwn
  rw [List.map_append]
  rw [hu] at ho1
  exact ho1
/-- bytes more -/
theorem wpList_accA {ops : Array Oper} {rest : List Oper} {o : Oper} {act : Act} {W wb : World} {Q : Exit → Act → World → Prop} (hg : o.guard = none) (x y : Operand) (ho : o.op = .call { callee := .builtin .append, args := #[x, y], argTypes := #[24, 24] })
    {a : Option Addr} {n c : Nat} {l : List UInt8} {sa : Option Addr} {m sc : Nat} (s : List UInt8) (hx : act.eval x = .slice a n c) (hy : act.eval y = .slice sa m sc) (h : Acc wb W a n c l) (hs : BLies W sa s) (hm : s.length = m) (hb : l.length + m ≤ 140737488355328)
    (k : ∀ a' n' c' W', Acc wb W' a' n' c' (l ++ s) → wpList Try.prog ops Q rest (act.put o.dst (.slice a' n' c')) W') : wpList Try.prog ops Q (o :: rest) act W := by
  have hl := h.len
  refine wpList_appBL hg x y ho hx hy h.1 hs hm (by omega) h.2.size ?_
  intro a' c' w1 ho1 hc hi
  exact k _ _ _ _ ⟨ho1, h.ch hc (fun g hg => hg)⟩
end Go.Proofs.Ytkdmebcfedehiaa
