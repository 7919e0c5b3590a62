/- Helpers and contracts of the proofs over this seat: ApartW, Apart2, ApartT, ApLists, ApListsW. Each states what a function of the program answers, or is plain Lean; its conditions stand in each statement. -/
import Derived.Test.YtfboddnpkaiifaaPtAA
import Derived.Test.YtfboddnpkaiifaaPtAB
set_option linter.unusedVariables false
/- strongroomkit.ApartBytes. -/
namespace Go.Proofs.Ytfboddnpkaiifaa
open Go.RowKit

set_option maxRecDepth 100000 in
set_option maxHeartbeats 1000000 in
theorem apart_any (base : Nat) (als : Option Addr) (cls : Nat) (L : List Sl) (w : World) (hs : St1 base als cls L w 0 0 w) (hb : base ≤ w.heap.size) (hd : Distinct L) (hK : L.length ≤ 100000000) (hN : ∀ j (hj : j < L.length), (L[j]).n ≤ 100000000) :
    Calls Try.prog 28 #[.slice als L.length cls] w fun e w' => e = .returned (.bool true) ∧ Below base w w' := by
  have HD : Hid (Distinct L) := hd
  have HN : Hid (∀ j (hj : j < L.length), (L[j]).n ≤ 100000000) := hN
  clear hd hN
  go_enter Try.func28, Try.ntmps28
  go_wp2_with fail
  go_loopw [3] (fun i wr => ∃ k : Nat, k ≤ L.length ∧ i = .int .i64 k ∧ St1 base als cls L w k 0 wr) (fun i _ => L.length - (intOf i).toNat)
  case atStart => exact ⟨0, by omega, rfl, hs⟩
  case round =>
    obtain ⟨k, hk, rfl, hst⟩ := hrel
    by_cases hlt : k < L.length
    · go_wp2_with fail
      obtain ⟨wo, rfl⟩ : ∃ wo : World, wo = wr := ⟨_, rfl⟩
      go_loopw [4] (fun i wr => ∃ j : Nat, j ≤ (L[k]).n ∧ i = .int .i64 j ∧ St1 base als cls L w k j wr) (fun i _ => (L[k]).n - (intOf i).toNat)
      case atStart => exact ⟨0, by omega, rfl, hst⟩
      case round =>
        obtain ⟨j, hj, rfl, hst⟩ := hrel
        have HST : Hid (St1 base als cls L w k j wr) := hst
        clear hst
        obtain ⟨gs, rfl, _, _, hcs, _⟩ := Own.cell HST.out.outer k (by simpa using hlt)
        have hcs' : wr.cell? ⟨gs, k, none⟩ = some (.slice (L[k]).a (L[k]).n (L[k]).c) := by rw [hcs]; simp [Sl.val]
        clear hcs
        have hn := HN.out k hlt
        by_cases hjt : j < (L[k]).n
        · obtain ⟨g, ha, ⟨u, hu⟩, hf, hst'⟩ := HST.out.store HD.out hlt hjt
          rw [ha] at hcs'
          have HA : Hid ((L[k]).a = some ⟨g, 0, none⟩) := ha
          clear ha
          go_wp2_with fail
          have hw1 : IntKind.i64.wrap ((k : Int) + 1) = (k : Int) + 1 := IntWalk.i64_in _ (by omega)
          refine wp_region_still_tail 10 (by kernel_rfl) (by kernel_rfl) ?_
          simp only [List.take_succ_cons, List.take_zero, List.drop_succ_cons, List.drop_zero]
          repeat still_step
          still_call ((mark_any _ _ _ (by omega) (by omega)).mono fun e w' ⟨he, hw⟩ => ⟨he, hw.symm⟩)
          repeat still_step
          refine wpStill_nil ?_
          change wpList _ _ _ _ _ wr.drew
          go_wp2
          go_roundw
          case rel => exact ⟨j + 1, by omega, by go_num, hst'.drew⟩
          case measure => simp [intOf]; omega
        · obtain rfl : j = (L[k]).n := by omega
          go_wp2_with fail
          go_roundw
          case rel => exact ⟨k + 1, by omega, by go_num, HST.out.next hlt rfl⟩
          case measure => simp [intOf]; omega
    · obtain rfl : k = L.length := by omega
      obtain ⟨wk, rfl⟩ : ∃ wk : World, wk = wr := ⟨_, rfl⟩
      have HS2 : Hid (St2 base als cls L w wk.heap.size 0 none 0 [] wk) := St2.start hst hb
      clear hst
      go_wp2_with fail
      go_loopw [5, 6] (fun v i wr => ∃ (k : Nat) (ags : Option Addr) (cgs : Nat) (G : List Sl), k ≤ L.length ∧ i = .int .i64 k ∧ v = .slice ags k cgs ∧ St2 base als cls L w wk.heap.size k ags cgs G wr) (fun _ i _ => L.length - (intOf i).toNat)
      case atStart => exact ⟨0, none, 0, [], by omega, rfl, rfl, HS2.out⟩
      case round =>
        obtain ⟨k, ags, cgs, G, hk, rfl, rfl, hst⟩ := hrel
        have HST : Hid (St2 base als cls L w wk.heap.size k ags cgs G wr) := hst
        clear hst
        by_cases hlt : k < L.length
        · obtain ⟨gs, e1, _, _, hcs, _⟩ := Own.cell HST.out.outer k (by simpa using hlt)
          have hcs' : wr.cell? ⟨gs, k, none⟩ = some (.slice (L[k]).a (L[k]).n (L[k]).c) := by rw [hcs]; simp [Sl.val]
          clear hcs
          obtain rfl := e1
          go_wp2_with fail
          obtain ⟨wo, rfl⟩ : ∃ wo : World, wo = wr := ⟨_, rfl⟩
          go_loopw [7, 8] (fun v i wr => ∃ (m : Nat) (a : Option Addr) (c : Nat), m ≤ 70 ∧ i = .int .i64 m ∧ v = .slice a ((L[k]).n + m) c ∧ In2 base L k hlt wo m a c wr) (fun _ i _ => 70 - (intOf i).toNat)
          case atStart => exact ⟨0, _, _, by omega, rfl, rfl, In2.start HST.out hlt⟩
          case round =>
            obtain ⟨m, a, c, hm, rfl, rfl, hin⟩ := hrel
            have HIN : Hid (In2 base L k hlt wo m a c wr) := hin
            clear hin
            obtain ⟨gs2, e1, _, _, hcs, _⟩ := Own.cell (HST.out.outerIn hlt HIN.out.frame) k (by simpa using hlt)
            obtain rfl : gs = gs2 := by simpa using e1
            clear e1
            have hcs2 : wr.cell? ⟨gs, k, none⟩ = some (.slice (L[k]).a (L[k]).n (L[k]).c) := by rw [hcs]; simp [Sl.val]
            clear hcs
            have hn := HN.out k hlt
            have hsz : base ≤ wr.heap.size := Nat.le_trans HST.out.baseB (Nat.le_trans HST.out.size HIN.out.frame.size)
            by_cases hm70 : m < 70
            · go_wp2_with (first | (go_at_call 50; refine (mark_any _ _ _ (by omega) (by omega)).mono ?_; rintro e w' ⟨rfl, rfl⟩) | (at_builtin; refine wpList_push elB rfl (.tmp 51) (.tmp 62) rfl rfl HIN.out.row (.int .u8 ((mrk ((k : Int) + 1) (((L[k]).n : Int) + (m : Int))).toNat : Int)) rfl rfl (by unfold maxLen; omega) (by omega) hsz ?_; intro g cap w1 hown1 hgr))
              go_roundw
              case rel => exact ⟨m + 1, _, _, by omega, by go_num, rfl, HIN.out.next hown1 hgr⟩
              case measure => simp [intOf]; omega
            · obtain rfl : m = 70 := by omega
              have hgs : SOwn wr wk.heap.size ags k cgs G := Own.grownNe HST.out.gs HIN.out.frame fun g1 hc1 ha1 hb1 => by
                obtain ⟨hc2, ha2⟩ := (HST.out.lists k hlt).blk hb1
                have h3 := HST.out.gs
                have h4 := HST.out.lists k hlt
                rw [ha1] at h3
                rw [ha2] at h4
                exact own_ne h3 h4 hc1 hc2 (by decide) rfl
              have hszB : wk.heap.size ≤ wr.heap.size := Nat.le_trans HST.out.size HIN.out.frame.size
              go_wp2_with (at_builtin; refine wpList_push elS rfl (.tmp 64) (.tmp 66) rfl rfl hgs (.slice a ((L[k]).n + 70) c) rfl rfl (by unfold maxLen; omega) (by omega) hszB ?_; intro g cap w1 hown1 hgr)
              go_roundw
              case rel => exact ⟨k + 1, _, _, _, by omega, by go_num, rfl, HST.out.next hlt HD.out HIN.out hown1 hgr⟩
              case measure => simp [intOf]; omega
        · obtain rfl : k = L.length := by omega
          obtain ⟨w3, rfl⟩ : ∃ w3 : World, w3 = wr := ⟨_, rfl⟩
          go_wp2_with fail
          go_loopw [9] (fun i wr => ∃ k n : Nat, k ≤ L.length ∧ i = .int .i64 k ∧ wr = w3.drewN n) (fun i _ => L.length - (intOf i).toNat)
          case atStart => exact ⟨0, 0, by omega, rfl, rfl⟩
          case round =>
            obtain ⟨k, n, hk, rfl, rfl⟩ := hrel
            by_cases hlt : k < L.length
            · obtain ⟨gl, gg, h, c, rfl, rfl, c1, c2, c3, c4⟩ := HST.out.look k hlt
              have C3 := Lib.hid c3
              have C4 := Lib.hid c4
              clear c3 c4
              have hn := HN.out k hlt
              go_wp2_with fail
              go_loopw [10] (fun i wr => ∃ j m : Nat, j ≤ (L[k]).n + 70 ∧ i = .int .i64 j ∧ wr = w3.drewN m) (fun i _ => (L[k]).n + 70 - (intOf i).toNat)
              case atStart => exact ⟨0, n, by omega, rfl, rfl⟩
              case round =>
                obtain ⟨j, m, hj, rfl, rfl⟩ := hrel
                by_cases hjt : j < (L[k]).n + 70
                · have c3 := C3.out j hjt
                  by_cases hjn : j < (L[k]).n
                  · obtain ⟨g, ha, c4⟩ := C4.out j hjn
                    rw [ha] at c1
                    have HA := Lib.hid ha
                    clear ha
                    go_wp2_with (go_at_call 50; refine (mark_any _ _ _ (by omega) (by omega)).mono ?_; rintro e w' ⟨rfl, rfl⟩)
                    go_roundw
                    case rel => exact ⟨j + 1, m, by omega, by go_num, rfl⟩
                    case measure => simp [intOf]; omega
                  · have hjd : decide ((j : Int) < ((L[k]).n : Int)) = false := by rw [decide_eq_false_iff_not]; omega
                    go_wp2_with (go_at_call 50; refine (mark_any _ _ _ (by omega) (by omega)).mono ?_; rintro e w' ⟨rfl, rfl⟩)
                    go_roundw
                    case rel => exact ⟨j + 1, m, by omega, by go_num, rfl⟩
                    case measure => simp [intOf]; omega
                · obtain rfl : j = (L[k]).n + 70 := by omega
                  go_wp2_with fail
                  go_roundw
                  case rel => exact ⟨k + 1, m, by omega, by go_num, rfl⟩
                  case measure => simp [intOf]; omega
            · obtain rfl : k = L.length := by omega
              go_wp2_with fail
              go_ret
              exact ⟨rfl, HST.out.below.trans ⟨rfl, rfl, rfl, Nat.le_refl _, fun _ _ => rfl⟩⟩

theorem apart_n (base : Nat) (als : Option Addr) (cls n : Nat) (L : List Sl) (w : World) (hs : St1 base als cls L w 0 0 w) (hb : base ≤ w.heap.size) (hd : Distinct L) (hn : L.length = n) (hK : n ≤ 100000000) (hN : ∀ j (hj : j < L.length), (L[j]).n ≤ 100000000) :
    Calls Try.prog 28 #[.slice als n cls] w fun e w' => e = .returned (.bool true) ∧ Below base w w' := by
  subst hn
  exact apart_any base als cls L w hs hb hd hK hN

end Go.Proofs.Ytfboddnpkaiifaa
/- ApartBytes of a literal list of lists. No walk. -/
namespace Go.Proofs.Ytfboddnpkaiifaa
open Go.RowKit

theorem own_lit (w : World) (e : TypeId) (xs : List Value) (n : Nat) (hn : xs.length = n) (hm : n ≤ maxLen) : Own (w.alloc (.cells xs.toArray e)) w.heap.size e 1 (some ⟨w.heap.size, 0, none⟩) n n xs := by
  subst hn
  exact ⟨by simp, .inr ⟨w.heap.size, _, rfl, Nat.le_refl _, heap_alloc_new w _, Nat.le_refl _, hm, by simp, by simp⟩⟩

/-- between which numbers a slice's block lies -/
def Sl.within (s : Sl) (lo hi : Nat) : Prop := ∀ g, s.blk = some g → lo ≤ g ∧ g < hi
theorem BOwn.within {w : World} {base : Nat} {a : Option Addr} {n c : Nat} {l : List UInt8} (h : BOwn w base a n c l) : (⟨a, n, c⟩ : Sl).within base w.heap.size := by
  intro g hg
  have h' : BOwn w base (⟨a, n, c⟩ : Sl).a (⟨a, n, c⟩ : Sl).n (⟨a, n, c⟩ : Sl).c l := h
  obtain ⟨hc, ha⟩ := h'.blk hg
  obtain ⟨g', e, h1, h2⟩ := Own.block h hc
  rw [show a = some ⟨g, 0, none⟩ from ha] at e
  injection e with e; injection e with e
  subst e
  exact ⟨h1, h2⟩

theorem distinct_of (L : List Sl) (b : Nat → Nat) (hb : ∀ i, i < L.length → b i ≤ b (i + 1)) (h : ∀ i (hi : i < L.length), (L[i]).within (b i) (b (i + 1))) : Distinct L := by
  have mono : ∀ i j, i ≤ j → j ≤ L.length → b i ≤ b j := by
    intro i j hij
    induction j with
    | zero => intro _; have : i = 0 := by omega
              subst this; exact Nat.le_refl _
    | succ j ih =>
      intro hj
      by_cases e : i = j + 1
      · subst e; exact Nat.le_refl _
      · exact Nat.le_trans (ih (by omega) (by omega)) (hb j (by omega))
  intro i j hi hj hne g hgi hgj
  have h1 := h i hi g hgi
  have h2 := h j hj g hgj
  rcases Nat.lt_or_gt_of_ne hne with hlt | hlt
  · have := mono (i + 1) j (by omega) (by omega); omega
  · have := mono (j + 1) i (by omega) (by omega); omega

theorem st1_lit {w : World} {base : Nat} {L : List Sl} (h : ∀ j (hj : j < L.length), ∃ l, BOwn w base (L[j]).a (L[j]).n (L[j]).c l) (hb : base ≤ w.heap.size) (n : Nat) (hn : L.length = n) (hm : n ≤ maxLen) :
    St1 base (some ⟨w.heap.size, 0, none⟩) n L (w.alloc (.cells (L.map Sl.val).toArray 22)) 0 0 (w.alloc (.cells (L.map Sl.val).toArray 22)) := by
  subst hn
  refine ⟨(own_lit w _ _ _ (by simp) hm).mono hb, fun j hj => ?_, Below.refl _ _⟩
  obtain ⟨l, ho⟩ := h j hj
  exact ⟨l, Own.grownNone ho (World.grownBy_alloc w _ none), fun h => absurd h (by omega), fun _ => by simp [mkl]⟩

theorem grown_below {w0 w w' : World} {base : Nat} (h : w0.grownBy w none) (hb : Below base w w') (hs : w0.heap.size ≤ base) : w0.grownBy w' none :=
  ⟨hb.os.trans h.os, hb.tape.trans h.tape, hb.output.trans h.output, Nat.le_trans h.size hb.size, fun k hk hr => (hb.block k (by omega)).trans (h.block k hk hr)⟩

end Go.Proofs.Ytfboddnpkaiifaa
/- ApartBytes, with a stronger word: blocks that hold other things than bytes stay as they were. Printed by gens/apartt.py. -/
namespace Go.Proofs.Ytfboddnpkaiifaa
open Go.RowKit

/-- block k holds other things than bytes -/
def NB (w : World) (k : Nat) : Prop := ∃ cs e fr, w.heap[k]? = some (.cells cs e fr) ∧ e ≠ 5
theorem NB.lt {w : World} {k : Nat} (h : NB w k) : k < w.heap.size := by
  obtain ⟨cs, e, fr, h1, _⟩ := h
  exact (Array.getElem?_eq_some_iff.1 h1).1
theorem BOwn.notNB {w : World} {base : Nat} {a : Option Addr} {n c g : Nat} {l : List UInt8} (h : BOwn w base a n c l) (hc : 0 < c) (ha : a = some ⟨g, 0, none⟩) (hn : NB w g) : False := by
  obtain ⟨cs, e, fr, h1, h2⟩ := hn
  rcases h.2 with ⟨_, h0⟩ | ⟨g', cur, ha', hb, hh, _⟩
  · omega
  · rw [ha] at ha'
    injection ha' with ha'; injection ha' with ha'
    subst ha'
    rw [hh] at h1
    injection h1 with h1
    injection h1 with _ h3 _
    exact h2 h3.symm
/-- block k holds other things than bytes, or is none of these lists' -/
def Off (L : List Sl) (w : World) (k : Nat) : Prop := NB w k ∨ (k < w.heap.size ∧ ∀ j (hj : j < L.length), (L[j]).blk ≠ some k)
theorem Off.lt {L : List Sl} {w : World} {k : Nat} (h : Off L w k) : k < w.heap.size := h.elim (fun h => h.lt) (fun h => h.1)
structure BelowT (base : Nat) (L : List Sl) (w w' : World) : Prop extends Below base w w' where
  off : ∀ k, Off L w k → w'.heap[k]? = w.heap[k]?
theorem BelowT.other {base : Nat} {L : List Sl} {w w' : World} (h : BelowT base L w w') (k : Nat) (hk : NB w k) : w'.heap[k]? = w.heap[k]? := h.off k (.inl hk)
theorem BelowT.refl (base : Nat) (L : List Sl) (w : World) : BelowT base L w w := ⟨Below.refl _ _, fun _ _ => rfl⟩
theorem BelowT.trans {base : Nat} {L : List Sl} {a b c : World} (h : BelowT base L a b) (k : BelowT base L b c) : BelowT base L a c :=
  ⟨h.toBelow.trans k.toBelow, fun i hi => (k.off i (by
    rcases hi with ⟨cs, e, fr, h1, h2⟩ | ⟨h1, h2⟩
    · exact .inl ⟨cs, e, fr, (h.off i (.inl ⟨cs, e, fr, h1, h2⟩)).trans h1, h2⟩
    · exact .inr ⟨Nat.lt_of_lt_of_le h1 h.toBelow.size, h2⟩)).trans (h.off i hi)⟩
theorem BelowT.drewN {base : Nat} {L : List Sl} {a b : World} (h : BelowT base L a b) (n : Nat) : BelowT base L a (b.drewN n) :=
  ⟨h.toBelow.trans ⟨rfl, rfl, rfl, Nat.le_refl _, fun _ _ => rfl⟩, h.off⟩
theorem BelowT.setCell {base : Nat} {L : List Sl} {a b : World} (h : BelowT base L a b) {g : Nat} (hb : base ≤ g) (hn : Off L b g → False) (i : Nat) (u : Value) : BelowT base L a (b.setCell ⟨g, i, none⟩ u) :=
  h.trans ⟨(Below.refl base b).setCell (p := ⟨g, i, none⟩) hb _, fun k hk => Below.heap_setCell _ _ _ _ (by rintro rfl; exact hn hk)⟩
theorem BelowT.grown {base : Nat} {L : List Sl} {a b c : World} {row : Option Nat} (h : BelowT base L a b) (hg : b.grownBy c row) (hB : base ≤ b.heap.size) (hr : ∀ k, row = some k → base ≤ k ∧ a.heap.size ≤ k) : BelowT base L a c :=
  ⟨h.toBelow.grown hg hB (fun k hk => (hr k hk).1), fun k hk => (hg.block k (Nat.lt_of_lt_of_le hk.lt h.toBelow.size) (fun e => by have := (hr k e.symm).2; have := hk.lt; omega)).trans (h.off k hk)⟩
/-- phase 1: the lists below k bear their marks, list k the first i of them -/
structure TSt1 (base : Nat) (als : Option Addr) (cls : Nat) (L : List Sl) (w : World) (k i : Nat) (wr : World) : Prop where
  outer : SOwn wr base als L.length cls L
  inner : ∀ j (hj : j < L.length), ∃ l, BOwn wr base (L[j]).a (L[j]).n (L[j]).c l ∧ (j < k → l = mkl j (L[j]).n) ∧ (j = k → l.take i = mkl k i)
  below : BelowT base L w wr

theorem TSt1.drewN {base : Nat} {als : Option Addr} {cls : Nat} {L : List Sl} {w : World} {k i : Nat} {wr : World} (h : TSt1 base als cls L w k i wr) (n : Nat) : TSt1 base als cls L w k i (wr.drewN n) :=
  ⟨h.outer, h.inner, h.below.drewN n⟩
theorem TSt1.drew {base : Nat} {als : Option Addr} {cls : Nat} {L : List Sl} {w : World} {k i : Nat} {wr : World} (h : TSt1 base als cls L w k i wr) : TSt1 base als cls L w k i wr.drew := h.drewN 1

theorem TSt1.next {base : Nat} {als : Option Addr} {cls : Nat} {L : List Sl} {w : World} {k i : Nat} {wr : World} (h : TSt1 base als cls L w k i wr) (hk : k < L.length) (hi : i = (L[k]).n) : TSt1 base als cls L w (k + 1) 0 wr := by
  refine ⟨h.outer, fun j hj => ?_, h.below⟩
  obtain ⟨l, ho, h1, h2⟩ := h.inner j hj
  refine ⟨l, ho, fun hjk => ?_, fun _ => by simp [mkl]⟩
  by_cases e : j = k
  · subst e
    have := h2 rfl
    rw [hi, List.take_of_length_le (by rw [ho.len]; omega)] at this
    exact this
  · exact h1 (by omega)

theorem TSt1.store {base : Nat} {als : Option Addr} {cls : Nat} {L : List Sl} {w : World} {k i : Nat} {wr : World} (h : TSt1 base als cls L w k i wr) (hd : Distinct L) (hk : k < L.length) (hi : i < (L[k]).n) :
    ∃ g, (L[k]).a = some ⟨g, 0, none⟩ ∧ (∃ u, wr.cell? ⟨g, i, none⟩ = some u) ∧ wr.frozen? ⟨g, i, none⟩ = false ∧ TSt1 base als cls L w k (i + 1) (wr.setCell ⟨g, i, none⟩ (.int .u8 ((mrk ((k : Int) + 1) (i : Int)).toNat : Int))) := by
  obtain ⟨l, ho, _, h2⟩ := h.inner k hk
  have hlen := ho.len
  obtain ⟨g, ha, hb, hlt, hc, hf⟩ := Own.cell ho i (by simp; omega)
  have hpos : 0 < (L[k]).c := by
    rcases ho.2 with ⟨h0, _⟩ | ⟨_, _, _, _, _, hn, _⟩ <;> omega
  have hblk : (L[k]).blk = some g := by simp [Sl.blk, Nat.ne_of_gt hpos, ha]
  refine ⟨g, ha, ⟨_, hc⟩, hf, ?_, fun j hj => ?_, h.below.setCell hb (fun hn => hn.elim (BOwn.notNB ho hpos ha) (fun h => h.2 k hk hblk)) _ _⟩
  · exact Own.setOther h.outer (by rw [ha] at ho; exact ho) hpos (by decide) _ _
  · by_cases e : j = k
    · subst e
      refine ⟨l.set i (mrk ((j : Int) + 1) (i : Int)), ?_, fun hj' => by omega, fun _ => ?_⟩
      · rw [ha] at ho ⊢
        have := Own.set ho i (by simp; omega) (.int .u8 ((mrk ((j : Int) + 1) (i : Int)).toNat : Int))
        unfold BOwn
        rw [List.map_set]
        exact this
      · rw [take_set_succ (by omega), h2 rfl, mkl_succ]
    · obtain ⟨lj, hoj, h1j, _⟩ := h.inner j hj
      refine ⟨lj, ?_, h1j, fun e' => absurd e' e⟩
      refine hoj.kept' fun hcj g' hg' _ => Below.heap_setCell _ _ _ _ ?_
      rintro rfl
      exact hd j k hj hk e g' (by simp [Sl.blk, Nat.ne_of_gt hcj, hg']) hblk

/-- phase 2: to the copies below k the marks behind their lists have been appended -/
structure TSt2 (base : Nat) (als : Option Addr) (cls : Nat) (L : List Sl) (w : World) (B : Nat) (k : Nat) (ags : Option Addr) (cgs : Nat) (G : List Sl) (wr : World) : Prop where
  outer : SOwn wr base als L.length cls L
  gs : SOwn wr B ags k cgs G
  lists : ∀ j (hj : j < L.length), BOwn wr base (L[j]).a (L[j]).n (L[j]).c (mkl j (L[j]).n)
  done : ∀ j (hj : j < L.length) (hG : j < G.length), (G[j]).n = (L[j]).n + 70 ∧ BOwn wr base (G[j]).a (G[j]).n (G[j]).c (mkl j ((L[j]).n + 70)) ∧ ∀ g, (G[j]).blk = some g → (L[j]).blk = some g ∨ B ≤ g
  below : BelowT base L w wr
  size : B ≤ wr.heap.size
  wB : w.heap.size ≤ B
  baseB : base ≤ B
  oldO : ∀ g, 0 < cls → als = some ⟨g, 0, none⟩ → g < B
  oldL : ∀ j (hj : j < L.length) g, (L[j]).blk = some g → g < B

theorem TSt2.start {base : Nat} {als : Option Addr} {cls : Nat} {L : List Sl} {w wr : World} (h : TSt1 base als cls L w L.length 0 wr) (hb : base ≤ w.heap.size) : TSt2 base als cls L w wr.heap.size 0 none 0 [] wr where
  outer := h.outer
  gs := Own.nil _ _ _ _ _
  lists := fun j hj => by
    obtain ⟨l, ho, h1, _⟩ := h.inner j hj
    rw [h1 hj] at ho
    exact ho
  done := fun j hj hG => absurd hG (by simp)
  below := h.below
  size := Nat.le_refl _
  wB := h.below.size
  baseB := Nat.le_trans hb h.below.size
  oldO := fun g hc ha => by
    obtain ⟨g', ha', _, hlt⟩ := Own.block h.outer hc
    rw [ha] at ha'
    injection ha' with ha'; injection ha' with ha'
    omega
  oldL := fun j hj g hg => by
    obtain ⟨l, ho, _, _⟩ := h.inner j hj
    obtain ⟨hc, ha⟩ := ho.blk hg
    obtain ⟨g', ha', _, hlt⟩ := Own.block ho hc
    rw [ha] at ha'
    injection ha' with ha'; injection ha' with ha'
    omega

theorem In2.startT {base : Nat} {als : Option Addr} {cls : Nat} {L : List Sl} {w : World} {B k : Nat} {ags : Option Addr} {cgs : Nat} {G : List Sl} {wr : World} (h : TSt2 base als cls L w B k ags cgs G wr) (hk : k < L.length) : In2 base L k hk wr 0 (L[k]).a (L[k]).c wr :=
  ⟨h.lists k hk, World.grownBy.refl _ _, fun g hc ha => .inl (Sl.blk_some hc ha), h.lists k hk⟩

theorem TSt2.outerIn {base : Nat} {als : Option Addr} {cls : Nat} {L : List Sl} {w : World} {B k : Nat} {ags : Option Addr} {cgs : Nat} {G : List Sl} {wk wr : World} (h : TSt2 base als cls L w B k ags cgs G wk) (hk : k < L.length) (hf : wk.grownBy wr (L[k]).blk) : SOwn wr base als L.length cls L := by
  refine Own.grownNe h.outer hf fun g1 hc1 ha1 hb1 => ?_
  obtain ⟨hc2, ha2⟩ := (h.lists k hk).blk hb1
  have h3 := h.outer
  have h4 := h.lists k hk
  rw [ha1] at h3
  rw [ha2] at h4
  exact own_ne h3 h4 hc1 hc2 (by decide) rfl

/-- the copy is laid among the others -/
theorem TSt2.next {base : Nat} {als : Option Addr} {cls : Nat} {L : List Sl} {w : World} {B k : Nat} {ags : Option Addr} {cgs : Nat} {G : List Sl} {wk wr w1 : World} (h : TSt2 base als cls L w B k ags cgs G wk) (hk : k < L.length) (hd : Distinct L) {a : Option Addr} {c : Nat} (h2 : In2 base L k hk wk 70 a c wr)
    {g cg : Nat} (ho : Own w1 B 22 1 (some ⟨g, 0, none⟩) (k + 1) cg (G.map Sl.val ++ [.slice a ((L[k]).n + 70) c])) (hg : GrewP wr w1 ags cgs (some ⟨g, 0, none⟩) cg) : TSt2 base als cls L w B (k + 1) (some ⟨g, 0, none⟩) cg (G ++ [⟨a, (L[k]).n + 70, c⟩]) w1 := by
  have hGl : G.length = k := h.gs.len
  have gs' : SOwn wr B ags k cgs G := by
    refine Own.grownNe h.gs h2.frame fun g1 hc1 ha1 hb1 => ?_
    obtain ⟨hc2, ha2⟩ := (h.lists k hk).blk hb1
    have h3 := h.gs
    have h4 := h.lists k hk
    rw [ha1] at h3
    rw [ha2] at h4
    exact own_ne h3 h4 hc1 hc2 (by decide) rfl
  have lists' : ∀ j (hj : j < L.length), BOwn wr base (L[j]).a (L[j]).n (L[j]).c (mkl j (L[j]).n) := by
    intro j hj
    by_cases e : j = k
    · subst e; exact h2.list
    · exact Own.grownNe (h.lists j hj) h2.frame fun g1 hc1 ha1 hb1 => hd j k hj hk e g1 (Sl.blk_some hc1 ha1) hb1
  refine ⟨?_, by unfold SOwn; rw [List.map_append]; exact ho, fun j hj => Own.grewOther (lists' j hj) gs' hg (by decide), fun j hj hG => ?_, ?_, ?_, ?_, h.baseB, h.oldO, h.oldL⟩
  · have o1 := h.outerIn hk h2.frame
    rcases hg with ⟨g1, e1, rfl, hc, hcc, hg⟩ | ⟨g1, e1, hs, hg⟩
    · refine Own.grownNe o1 hg fun g2 hc2 ha2 e2 => ?_
      injection e2 with e2
      subst e2
      have := h.oldO _ hc2 ha2
      obtain ⟨g3, e3, hb3, _⟩ := Own.block gs' hc
      rw [e1] at e3
      injection e3 with e3; injection e3 with e3
      omega
    · exact Own.grownNone o1 hg
  · by_cases e : j = k
    · subst e
      have eG : (G ++ [(⟨a, (L[j]).n + 70, c⟩ : Sl)])[j] = ⟨a, (L[j]).n + 70, c⟩ := by
        rw [List.getElem_append_right (by omega)]; simp [hGl]
      rw [eG]
      refine ⟨rfl, Own.grewOther h2.row gs' hg (by decide), fun g1 hb1 => ?_⟩
      have hb2 : c ≠ 0 ∧ ∃ x, a = some x ∧ x.block = g1 := by
        simp only [Sl.blk] at hb1
        split at hb1
        · cases hb1
        · rename_i hc
          exact ⟨hc, by simpa [Option.map_eq_some_iff] using hb1⟩
      obtain ⟨hc, x, rfl, rfl⟩ := hb2
      obtain ⟨g3, e3, _, _⟩ := Own.block h2.row (by omega)
      injection e3 with e3
      subst e3
      rcases h2.place g3 (by omega) rfl with hp | hp
      · exact .inl hp
      · exact .inr (Nat.le_trans h.size hp)
    · have hjk : j < k := by simp at hG; omega
      have eG : (G ++ [(⟨a, (L[k]).n + 70, c⟩ : Sl)])[j] = G[j]'(by omega) := List.getElem_append_left (by omega)
      rw [eG]
      obtain ⟨e1, e2, e3⟩ := h.done j hj (by omega)
      refine ⟨e1, Own.grewOther (Own.grownNe e2 h2.frame fun g1 hc1 ha1 hb1 => ?_) gs' hg (by decide), e3⟩
      rcases e3 g1 (Sl.blk_some hc1 ha1) with h5 | h5
      · exact hd j k hj hk e g1 h5 hb1
      · have := h.oldL k hk g1 hb1
        omega
  · have f1 : BelowT base L wk wr := by
      refine ⟨⟨h2.frame.os, h2.frame.tape, h2.frame.output, h2.frame.size, fun b hb => h2.frame.block b (by have := h.size; have := h.baseB; omega) fun e => ?_⟩, fun b hb => h2.frame.block b hb.lt fun e => ?_⟩
      · obtain ⟨hc2, ha2⟩ := (h.lists k hk).blk e.symm
        obtain ⟨g3, e3, hb3, _⟩ := Own.block (h.lists k hk) hc2
        rw [ha2] at e3
        injection e3 with e3; injection e3 with e3
        omega
      · obtain ⟨hc2, ha2⟩ := (h.lists k hk).blk e.symm
        exact hb.elim (BOwn.notNB (h.lists k hk) hc2 ha2) (fun h => h.2 k hk e.symm)
    have f2 := h.below.trans f1
    have hs := h.size
    have hbB := h.baseB
    have hwB := h.wB
    have hfs := h2.frame.size
    rcases hg with ⟨g1, e1, rfl, hc, hcc, hg⟩ | ⟨g1, e1, hs1, hg⟩
    · obtain ⟨g3, e3, hb3, _⟩ := Own.block gs' hc
      rw [e1] at e3
      injection e3 with e3; injection e3 with e3
      exact f2.grown hg (by omega) (fun b hb => by injection hb with hb; omega)
    · exact f2.grown hg (by omega) (fun b hb => by cases hb)
  · have := h.size
    have := h2.frame.size
    have := hg.grew.size
    omega
  · exact h.wB

/-- phase 3: what is looked at -/
theorem TSt2.look {base : Nat} {als : Option Addr} {cls : Nat} {L : List Sl} {w : World} {B : Nat} {ags : Option Addr} {cgs : Nat} {G : List Sl} {wr : World} (h : TSt2 base als cls L w B L.length ags cgs G wr) (k : Nat) (hk : k < L.length) :
    ∃ gl gg h c, als = some ⟨gl, 0, none⟩ ∧ ags = some ⟨gg, 0, none⟩ ∧ wr.cell? ⟨gl, k, none⟩ = some (.slice (L[k]).a (L[k]).n (L[k]).c) ∧ wr.cell? ⟨gg, k, none⟩ = some (.slice (some ⟨h, 0, none⟩) ((L[k]).n + 70) c) ∧
      (∀ i, i < (L[k]).n + 70 → wr.cell? ⟨h, i, none⟩ = some (.int .u8 ((mrk ((k : Int) + 1) (i : Int)).toNat : Int))) ∧
      (∀ i, i < (L[k]).n → ∃ g, (L[k]).a = some ⟨g, 0, none⟩ ∧ wr.cell? ⟨g, i, none⟩ = some (.int .u8 ((mrk ((k : Int) + 1) (i : Int)).toNat : Int))) := by
  obtain ⟨gl, e1, _, _, c1, _⟩ := Own.cell h.outer k (by simpa using hk)
  obtain ⟨gg, e2, _, _, c2, _⟩ := Own.cell h.gs k (by simpa [h.gs.len] using hk)
  have hG : k < G.length := by rw [h.gs.len]; exact hk
  obtain ⟨d1, d2, _⟩ := h.done k hk hG
  obtain ⟨hh, e3, _, _, _, _⟩ := Own.cell d2 0 (by simp [mkl_length])
  refine ⟨gl, gg, hh, (G[k]).c, e1, e2, by rw [c1]; simp [Sl.val], by rw [c2]; simp [Sl.val, e3, d1], fun i hi => ?_, fun i hi => ?_⟩
  · obtain ⟨h', e4, _, _, c4, _⟩ := Own.cell d2 i (by simp [mkl_length]; omega)
    rw [e3] at e4
    injection e4 with e4; injection e4 with e4
    subst e4
    rw [c4]
    simp [bval, mkl]
  · obtain ⟨g, e4, _, _, c4, _⟩ := Own.cell (h.lists k hk) i (by simp [mkl_length]; omega)
    exact ⟨g, e4, by rw [c4]; simp [bval, mkl]⟩

set_option maxRecDepth 100000 in
set_option maxHeartbeats 1000000 in
theorem apartT_any (base : Nat) (als : Option Addr) (cls : Nat) (L : List Sl) (w : World) (hs : TSt1 base als cls L w 0 0 w) (hb : base ≤ w.heap.size) (hd : Distinct L) (hK : L.length ≤ 100000000) (hN : ∀ j (hj : j < L.length), (L[j]).n ≤ 100000000) :
    Calls Try.prog 28 #[.slice als L.length cls] w fun e w' => e = .returned (.bool true) ∧ BelowT base L w w' := by
  have HD : Hid (Distinct L) := hd
  have HN : Hid (∀ j (hj : j < L.length), (L[j]).n ≤ 100000000) := hN
  clear hd hN
  go_enter Try.func28, Try.ntmps28
  go_wp2_with fail
  go_loopw [3] (fun i wr => ∃ k : Nat, k ≤ L.length ∧ i = .int .i64 k ∧ TSt1 base als cls L w k 0 wr) (fun i _ => L.length - (intOf i).toNat)
  case atStart => exact ⟨0, by omega, rfl, hs⟩
  case round =>
    obtain ⟨k, hk, rfl, hst⟩ := hrel
    by_cases hlt : k < L.length
    · go_wp2_with fail
      obtain ⟨wo, rfl⟩ : ∃ wo : World, wo = wr := ⟨_, rfl⟩
      go_loopw [4] (fun i wr => ∃ j : Nat, j ≤ (L[k]).n ∧ i = .int .i64 j ∧ TSt1 base als cls L w k j wr) (fun i _ => (L[k]).n - (intOf i).toNat)
      case atStart => exact ⟨0, by omega, rfl, hst⟩
      case round =>
        obtain ⟨j, hj, rfl, hst⟩ := hrel
        have HST : Hid (TSt1 base als cls L w k j wr) := hst
        clear hst
        obtain ⟨gs, rfl, _, _, hcs, _⟩ := Own.cell HST.out.outer k (by simpa using hlt)
        have hcs' : wr.cell? ⟨gs, k, none⟩ = some (.slice (L[k]).a (L[k]).n (L[k]).c) := by rw [hcs]; simp [Sl.val]
        clear hcs
        have hn := HN.out k hlt
        by_cases hjt : j < (L[k]).n
        · obtain ⟨g, ha, ⟨u, hu⟩, hf, hst'⟩ := HST.out.store HD.out hlt hjt
          rw [ha] at hcs'
          have HA : Hid ((L[k]).a = some ⟨g, 0, none⟩) := ha
          clear ha
          go_wp2_with fail
          have hw1 : IntKind.i64.wrap ((k : Int) + 1) = (k : Int) + 1 := IntWalk.i64_in _ (by omega)
          refine wp_region_still_tail 10 (by kernel_rfl) (by kernel_rfl) ?_
          simp only [List.take_succ_cons, List.take_zero, List.drop_succ_cons, List.drop_zero]
          repeat still_step
          still_call ((mark_any _ _ _ (by omega) (by omega)).mono fun e w' ⟨he, hw⟩ => ⟨he, hw.symm⟩)
          repeat still_step
          refine wpStill_nil ?_
          change wpList _ _ _ _ _ wr.drew
          go_wp2
          go_roundw
          case rel => exact ⟨j + 1, by omega, by go_num, hst'.drew⟩
          case measure => simp [intOf]; omega
        · obtain rfl : j = (L[k]).n := by omega
          go_wp2_with fail
          go_roundw
          case rel => exact ⟨k + 1, by omega, by go_num, HST.out.next hlt rfl⟩
          case measure => simp [intOf]; omega
    · obtain rfl : k = L.length := by omega
      obtain ⟨wk, rfl⟩ : ∃ wk : World, wk = wr := ⟨_, rfl⟩
      have HS2 : Hid (TSt2 base als cls L w wk.heap.size 0 none 0 [] wk) := TSt2.start hst hb
      clear hst
      go_wp2_with fail
      go_loopw [5, 6] (fun v i wr => ∃ (k : Nat) (ags : Option Addr) (cgs : Nat) (G : List Sl), k ≤ L.length ∧ i = .int .i64 k ∧ v = .slice ags k cgs ∧ TSt2 base als cls L w wk.heap.size k ags cgs G wr) (fun _ i _ => L.length - (intOf i).toNat)
      case atStart => exact ⟨0, none, 0, [], by omega, rfl, rfl, HS2.out⟩
      case round =>
        obtain ⟨k, ags, cgs, G, hk, rfl, rfl, hst⟩ := hrel
        have HST : Hid (TSt2 base als cls L w wk.heap.size k ags cgs G wr) := hst
        clear hst
        by_cases hlt : k < L.length
        · obtain ⟨gs, e1, _, _, hcs, _⟩ := Own.cell HST.out.outer k (by simpa using hlt)
          have hcs' : wr.cell? ⟨gs, k, none⟩ = some (.slice (L[k]).a (L[k]).n (L[k]).c) := by rw [hcs]; simp [Sl.val]
          clear hcs
          obtain rfl := e1
          go_wp2_with fail
          obtain ⟨wo, rfl⟩ : ∃ wo : World, wo = wr := ⟨_, rfl⟩
          go_loopw [7, 8] (fun v i wr => ∃ (m : Nat) (a : Option Addr) (c : Nat), m ≤ 70 ∧ i = .int .i64 m ∧ v = .slice a ((L[k]).n + m) c ∧ In2 base L k hlt wo m a c wr) (fun _ i _ => 70 - (intOf i).toNat)
          case atStart => exact ⟨0, _, _, by omega, rfl, rfl, In2.startT HST.out hlt⟩
          case round =>
            obtain ⟨m, a, c, hm, rfl, rfl, hin⟩ := hrel
            have HIN : Hid (In2 base L k hlt wo m a c wr) := hin
            clear hin
            obtain ⟨gs2, e1, _, _, hcs, _⟩ := Own.cell (HST.out.outerIn hlt HIN.out.frame) k (by simpa using hlt)
            obtain rfl : gs = gs2 := by simpa using e1
            clear e1
            have hcs2 : wr.cell? ⟨gs, k, none⟩ = some (.slice (L[k]).a (L[k]).n (L[k]).c) := by rw [hcs]; simp [Sl.val]
            clear hcs
            have hn := HN.out k hlt
            have hsz : base ≤ wr.heap.size := Nat.le_trans HST.out.baseB (Nat.le_trans HST.out.size HIN.out.frame.size)
            by_cases hm70 : m < 70
            · go_wp2_with (first | (go_at_call 50; refine (mark_any _ _ _ (by omega) (by omega)).mono ?_; rintro e w' ⟨rfl, rfl⟩) | (at_builtin; refine wpList_push elB rfl (.tmp 51) (.tmp 62) rfl rfl HIN.out.row (.int .u8 ((mrk ((k : Int) + 1) (((L[k]).n : Int) + (m : Int))).toNat : Int)) rfl rfl (by unfold maxLen; omega) (by omega) hsz ?_; intro g cap w1 hown1 hgr))
              go_roundw
              case rel => exact ⟨m + 1, _, _, by omega, by go_num, rfl, HIN.out.next hown1 hgr⟩
              case measure => simp [intOf]; omega
            · obtain rfl : m = 70 := by omega
              have hgs : SOwn wr wk.heap.size ags k cgs G := Own.grownNe HST.out.gs HIN.out.frame fun g1 hc1 ha1 hb1 => by
                obtain ⟨hc2, ha2⟩ := (HST.out.lists k hlt).blk hb1
                have h3 := HST.out.gs
                have h4 := HST.out.lists k hlt
                rw [ha1] at h3
                rw [ha2] at h4
                exact own_ne h3 h4 hc1 hc2 (by decide) rfl
              have hszB : wk.heap.size ≤ wr.heap.size := Nat.le_trans HST.out.size HIN.out.frame.size
              go_wp2_with (at_builtin; refine wpList_push elS rfl (.tmp 64) (.tmp 66) rfl rfl hgs (.slice a ((L[k]).n + 70) c) rfl rfl (by unfold maxLen; omega) (by omega) hszB ?_; intro g cap w1 hown1 hgr)
              go_roundw
              case rel => exact ⟨k + 1, _, _, _, by omega, by go_num, rfl, HST.out.next hlt HD.out HIN.out hown1 hgr⟩
              case measure => simp [intOf]; omega
        · obtain rfl : k = L.length := by omega
          obtain ⟨w3, rfl⟩ : ∃ w3 : World, w3 = wr := ⟨_, rfl⟩
          go_wp2_with fail
          go_loopw [9] (fun i wr => ∃ k n : Nat, k ≤ L.length ∧ i = .int .i64 k ∧ wr = w3.drewN n) (fun i _ => L.length - (intOf i).toNat)
          case atStart => exact ⟨0, 0, by omega, rfl, rfl⟩
          case round =>
            obtain ⟨k, n, hk, rfl, rfl⟩ := hrel
            by_cases hlt : k < L.length
            · obtain ⟨gl, gg, h, c, rfl, rfl, c1, c2, c3, c4⟩ := HST.out.look k hlt
              have C3 := Lib.hid c3
              have C4 := Lib.hid c4
              clear c3 c4
              have hn := HN.out k hlt
              go_wp2_with fail
              go_loopw [10] (fun i wr => ∃ j m : Nat, j ≤ (L[k]).n + 70 ∧ i = .int .i64 j ∧ wr = w3.drewN m) (fun i _ => (L[k]).n + 70 - (intOf i).toNat)
              case atStart => exact ⟨0, n, by omega, rfl, rfl⟩
              case round =>
                obtain ⟨j, m, hj, rfl, rfl⟩ := hrel
                by_cases hjt : j < (L[k]).n + 70
                · have c3 := C3.out j hjt
                  by_cases hjn : j < (L[k]).n
                  · obtain ⟨g, ha, c4⟩ := C4.out j hjn
                    rw [ha] at c1
                    have HA := Lib.hid ha
                    clear ha
                    go_wp2_with (go_at_call 50; refine (mark_any _ _ _ (by omega) (by omega)).mono ?_; rintro e w' ⟨rfl, rfl⟩)
                    go_roundw
                    case rel => exact ⟨j + 1, m, by omega, by go_num, rfl⟩
                    case measure => simp [intOf]; omega
                  · have hjd : decide ((j : Int) < ((L[k]).n : Int)) = false := by rw [decide_eq_false_iff_not]; omega
                    go_wp2_with (go_at_call 50; refine (mark_any _ _ _ (by omega) (by omega)).mono ?_; rintro e w' ⟨rfl, rfl⟩)
                    go_roundw
                    case rel => exact ⟨j + 1, m, by omega, by go_num, rfl⟩
                    case measure => simp [intOf]; omega
                · obtain rfl : j = (L[k]).n + 70 := by omega
                  go_wp2_with fail
                  go_roundw
                  case rel => exact ⟨k + 1, m, by omega, by go_num, rfl⟩
                  case measure => simp [intOf]; omega
            · obtain rfl : k = L.length := by omega
              go_wp2_with fail
              go_ret
              exact ⟨rfl, HST.out.below.drewN _⟩

theorem apartT_n (base : Nat) (als : Option Addr) (cls n : Nat) (L : List Sl) (w : World) (hs : TSt1 base als cls L w 0 0 w) (hb : base ≤ w.heap.size) (hd : Distinct L) (hn : L.length = n) (hK : n ≤ 100000000) (hN : ∀ j (hj : j < L.length), (L[j]).n ≤ 100000000) :
    Calls Try.prog 28 #[.slice als n cls] w fun e w' => e = .returned (.bool true) ∧ BelowT base L w w' := by
  subst hn
  exact apartT_any base als cls L w hs hb hd hK hN

theorem tst1_lit {w : World} {base : Nat} {L : List Sl} (h : ∀ j (hj : j < L.length), ∃ l, BOwn w base (L[j]).a (L[j]).n (L[j]).c l) (hb : base ≤ w.heap.size) (n : Nat) (hn : L.length = n) (hm : n ≤ maxLen) :
    TSt1 base (some ⟨w.heap.size, 0, none⟩) n L (w.alloc (.cells (L.map Sl.val).toArray 22)) 0 0 (w.alloc (.cells (L.map Sl.val).toArray 22)) := by
  subst hn
  refine ⟨(own_lit w _ _ _ (by simp) hm).mono hb, fun j hj => ?_, BelowT.refl _ _ _⟩
  obtain ⟨l, ho⟩ := h j hj
  exact ⟨l, Own.grownNone ho (World.grownBy_alloc w _ none), fun h => absurd h (by omega), fun _ => by simp [mkl]⟩
/-- a list of lists that the call owns, to be written over -/
theorem tst1_own {w : World} {base : Nat} {a : Option Addr} {n c : Nat} {L : List Sl} (ho : SOwn w base a n c L) (h : ∀ j (hj : j < L.length), ∃ l, BOwn w base (L[j]).a (L[j]).n (L[j]).c l) :
    TSt1 base a c L w 0 0 w := by
  refine ⟨by rw [ho.len]; exact ho, fun j hj => ?_, BelowT.refl _ _ _⟩
  obtain ⟨l, ho⟩ := h j hj
  exact ⟨l, ho, fun h => absurd h (by omega), fun _ => by simp [mkl]⟩

end Go.Proofs.Ytfboddnpkaiifaa
/- What ApartLists leans on: lists of lists whose members are written over by fresh lists of three bytes. No walk. -/
namespace Go.Proofs.Ytfboddnpkaiifaa
open Go.RowKit

/-- the mark of place i of list k -/
def mk3 (k i : Nat) : List UInt8 := [UInt8.ofNat k, UInt8.ofNat i, UInt8.ofNat (i / 256)]
/-- blocks of bytes stay -/
def KB (w w' : World) : Prop := ∀ (b : Nat) (cs : Array Value) (fr : Nat × Nat), w.heap[b]? = some (.cells cs 5 fr) → w'.heap[b]? = some (.cells cs 5 fr)
theorem KB.refl (w : World) : KB w w := fun _ _ _ h => h
theorem KB.trans {a b c : World} (h : KB a b) (k : KB b c) : KB a c := fun _ _ _ hb => k _ _ _ (h _ _ _ hb)
theorem KB.grown {w w' : World} {row : Option Nat} (hg : w.grownBy w' row) (hn : ∀ g, row = some g → NB w g) : KB w w' := fun b cs fr h =>
  (hg.block b (Array.getElem?_eq_some_iff.1 h).1 (fun e => by
    obtain ⟨cs', e', fr', h1, h2⟩ := hn b e.symm
    rw [h] at h1
    injection h1 with h1
    injection h1 with _ h3 _
    exact h2 h3.symm)).trans h
theorem Own.nb {w : World} {base : Nat} {e : TypeId} {size : Nat} {a : Option Addr} {n c : Nat} {xs : List Value} (h : Own w base e size a n c xs) (hne : e ≠ 5) {g : Nat} (hc : 0 < c) (ha : a = some ⟨g, 0, none⟩) : NB w g := by
  rcases h.2 with ⟨_, h0⟩ | ⟨g', cur, ha', hb, hh, _⟩
  · omega
  · rw [ha] at ha'
    injection ha' with ha'; injection ha' with ha'
    subst ha'
    exact ⟨_, _, _, hh, hne⟩
theorem KB.app {w w1 : World} {base : Nat} {e : TypeId} {size : Nat} {a a' : Option Addr} {n c c' : Nat} {xs : List Value} (h : Own w base e size a n c xs) (hne : e ≠ 5) (hg : GrewP w w1 a c a' c') : KB w w1 := by
  rcases hg with ⟨g, rfl, ha, hc, _, hg⟩ | ⟨g, _, _, hg⟩
  · exact KB.grown hg (fun g' e => by injection e with e; subst e; exact h.nb hne hc ha)
  · exact KB.grown hg (fun g' e => by cases e)
/-- v is a mark of place i of list k -/
def Mk (k i : Nat) (w : World) (v : Value) : Prop := ∃ b, v = .slice (some ⟨b, 0, none⟩) 3 3 ∧ BRow w b 5 (mk3 k i)
theorem Mk.keep {k i : Nat} {w w' : World} {v : Value} (h : Mk k i w v) (hk : KB w w') : Mk k i w' v := by
  obtain ⟨b, h1, h2⟩ := h
  exact ⟨b, h1, hk _ _ _ h2⟩
/-- all the cells are marks -/
def Mks (k : Nat) (w : World) (xs : List Value) : Prop := ∀ m (hm : m < xs.length), Mk k m w xs[m]
theorem Mks.keep {k : Nat} {w w' : World} {xs : List Value} (h : Mks k w xs) (hk : KB w w') : Mks k w' xs := fun m hm => (h m hm).keep hk
theorem Mks.take {k : Nat} {w : World} {xs : List Value} (h : Mks k w xs) (n : Nat) : Mks k w (xs.take n) := fun m hm => by
  rw [List.length_take] at hm
  rw [List.getElem_take]
  exact h m (by omega)
theorem Mks.push {k : Nat} {w : World} {xs : List Value} (h : Mks k w xs) {v : Value} (hv : Mk k xs.length w v) : Mks k w (xs ++ [v]) := fun m hm => by
  by_cases e : m < xs.length
  · rw [List.getElem_append_left e]; exact h m e
  · simp only [List.length_append, List.length_singleton] at hm
    obtain rfl : m = xs.length := by omega
    simpa using hv

/-- the slices of a list, each a row of slices of bytes -/
abbrev XOwn (w : World) (base : Nat) (s : Sl) (xs : List Value) : Prop := Own w base 22 1 s.a s.n s.c xs
abbrev OOwn (w : World) (base : Nat) (a : Option Addr) (n c : Nat) (O : List Sl) : Prop := Own w base 24 1 a n c (O.map Sl.val)
theorem elL : El Try.prog 32 24 (.slice none 0 0) 1 24 :=
  ⟨Try.underlying32, info_parts (by kernel_rfl), rfl, by decide⟩

/-- phase 1: the lists below k are written over, of list k the first i -/
structure LSt1 (base : Nat) (als : Option Addr) (cls : Nat) (O : List Sl) (w : World) (k i : Nat) (wr : World) : Prop where
  outer : OOwn wr base als O.length cls O
  inner : ∀ j (hj : j < O.length), ∃ xs, XOwn wr base O[j] xs ∧ ∀ m (hm : m < xs.length), (j < k ∨ (j = k ∧ m < i)) → Mk j m wr xs[m]
  below : Below base w wr
  size : base ≤ wr.heap.size

section
variable {base : Nat} {als : Option Addr} {cls : Nat} {O : List Sl} {w wr w2 : World} {k i : Nat}
theorem LSt1.grown (h : LSt1 base als cls O w k i wr) (hg : wr.grownBy w2 none) : LSt1 base als cls O w k i w2 :=
  ⟨Own.grownNone h.outer hg, fun j hj => by
    obtain ⟨xs, h1, h2⟩ := h.inner j hj
    exact ⟨xs, Own.grownNone h1 hg, fun m hm hmm => (h2 m hm hmm).keep (KB.grown hg (fun g e => by cases e))⟩, h.below.grown hg h.size (fun g e => by cases e), Nat.le_trans h.size hg.size⟩
theorem LSt1.next (h : LSt1 base als cls O w k i wr) (hk : k < O.length) (hi : i = (O[k]).n) : LSt1 base als cls O w (k + 1) 0 wr :=
  ⟨h.outer, fun j hj => by
    obtain ⟨xs, h1, h2⟩ := h.inner j hj
    refine ⟨xs, h1, fun m hm hmm => h2 m hm ?_⟩
    have hx := h1.1
    rcases hmm with hmm | hmm
    · by_cases e : j = k
      · subst e; exact .inr ⟨rfl, by omega⟩
      · exact .inl (by omega)
    · omega, h.below, h.size⟩
theorem LSt1.store (h : LSt1 base als cls O w k i wr) (hd : Distinct O) (hk : k < O.length) (hi : i < (O[k]).n) {v : Value} (hv : Mk k i wr v) :
    ∃ g, (O[k]).a = some ⟨g, 0, none⟩ ∧ (∃ u, wr.cell? ⟨g, i, none⟩ = some u) ∧ wr.frozen? ⟨g, i, none⟩ = false ∧ LSt1 base als cls O w k (i + 1) (wr.setCell ⟨g, i, none⟩ v) := by
  obtain ⟨xs, ho, h2⟩ := h.inner k hk
  have hlen := ho.1
  obtain ⟨g, ha, hb, hlt, hc, hf⟩ := Own.cell ho i (by omega)
  have hpos : 0 < (O[k]).c := by
    rcases ho.2 with ⟨h0, _⟩ | ⟨_, _, _, _, _, hn, _⟩ <;> omega
  have hblk : (O[k]).blk = some g := by simp [Sl.blk, Nat.ne_of_gt hpos, ha]
  have hkb : KB wr (wr.setCell ⟨g, i, none⟩ v) := KB.grown (grownBy_setCell _ _ _ _) (fun g' e => by injection e with e; subst e; exact Own.nb ho (by decide) hpos ha)
  refine ⟨g, ha, ⟨_, hc⟩, hf, ?_, fun j hj => ?_, h.below.trans ((Below.refl base wr).setCell (p := ⟨g, i, none⟩) hb _), by simpa [World.setCell] using h.size⟩
  · have ho' : Own wr base 22 1 (O[k]).a (O[k]).n (O[k]).c xs := ho
    rw [ha] at ho'
    exact Own.setOther h.outer ho' hpos (by decide) _ _
  · by_cases e : j = k
    · subst e
      refine ⟨xs.set i v, ?_, fun m hm hmm => ?_⟩
      · show Own _ _ _ _ _ _ _ _
        have ho' : Own wr base 22 1 (O[j]).a (O[j]).n (O[j]).c xs := ho
        rw [ha] at ho' ⊢
        exact Own.set ho' i (by omega) v
      · rw [List.length_set] at hm
        by_cases em : m = i
        · subst em
          rw [List.getElem_set_self]
          exact hv.keep hkb
        · rw [List.getElem_set_ne (by omega)]
          exact (h2 m hm (by omega)).keep hkb
    · obtain ⟨xj, hoj, h1j⟩ := h.inner j hj
      refine ⟨xj, ?_, fun m hm hmm => (h1j m hm (by omega)).keep hkb⟩
      refine hoj.kept' fun hcj g' hg' _ => Below.heap_setCell _ _ _ _ ?_
      rintro rfl
      exact hd j k hj hk e g' (by simp [Sl.blk, Nat.ne_of_gt hcj, hg']) hblk
end

/-- phase 2: to the copies below k the marks behind their lists have been appended -/
structure LSt2 (base : Nat) (als : Option Addr) (cls : Nat) (O : List Sl) (w : World) (B : Nat) (k : Nat) (ags : Option Addr) (cgs : Nat) (G : List Sl) (wr : World) : Prop where
  outer : OOwn wr base als O.length cls O
  gs : OOwn wr B ags k cgs G
  lists : ∀ j (hj : j < O.length), ∃ xs, XOwn wr base O[j] xs ∧ Mks j wr xs
  done : ∀ j (hj : j < O.length) (hG : j < G.length), (G[j]).n = (O[j]).n + 70 ∧ (∃ xs, XOwn wr base G[j] xs ∧ Mks j wr xs) ∧ ∀ g, (G[j]).blk = some g → (O[j]).blk = some g ∨ B ≤ g
  below : Below base w wr
  size : B ≤ wr.heap.size
  baseB : base ≤ B
  oldO : ∀ g, 0 < cls → als = some ⟨g, 0, none⟩ → g < B
  oldL : ∀ j (hj : j < O.length) g, (O[j]).blk = some g → g < B

theorem own_blk {w : World} {base : Nat} {e : TypeId} {s : Sl} {xs : List Value} (h : Own w base e 1 s.a s.n s.c xs) {g : Nat} (hb : s.blk = some g) : 0 < s.c ∧ s.a = some ⟨g, 0, none⟩ ∧ base ≤ g ∧ g < w.heap.size := by
  unfold Sl.blk at hb
  split at hb
  · cases hb
  · rename_i hc
    obtain ⟨g', ha, h1, h2⟩ := Own.block h (by omega)
    rw [ha] at hb
    simp at hb
    subst hb
    exact ⟨by omega, ha, h1, h2⟩

theorem LSt2.start {base : Nat} {als : Option Addr} {cls : Nat} {O : List Sl} {w wr : World} (h : LSt1 base als cls O w O.length 0 wr) : LSt2 base als cls O w wr.heap.size 0 none 0 [] wr where
  outer := h.outer
  gs := Own.nil _ _ _ _ _
  lists := fun j hj => by
    obtain ⟨xs, ho, h1⟩ := h.inner j hj
    exact ⟨xs, ho, fun m hm => h1 m hm (.inl hj)⟩
  done := fun j hj hG => absurd hG (by simp)
  below := h.below
  size := Nat.le_refl _
  baseB := h.size
  oldO := fun g hc ha => by
    obtain ⟨g', ha', _, hlt⟩ := Own.block h.outer hc
    rw [ha] at ha'
    injection ha' with ha'; injection ha' with ha'
    omega
  oldL := fun j hj g hg => by
    obtain ⟨xs, ho, _⟩ := h.inner j hj
    exact (own_blk ho hg).2.2.2

/-- the inner loop of phase 2 -/
structure LIn2 (base : Nat) (O : List Sl) (k : Nat) (hk : k < O.length) (wk : World) (i : Nat) (a : Option Addr) (c : Nat) (ys : List Value) (wr : World) : Prop where
  row : Own wr base 22 1 a ((O[k]).n + i) c ys
  marks : Mks k wr ys
  list : XOwn wr base O[k] (ys.take (O[k]).n)
  frame : wk.grownBy wr (O[k]).blk
  place : ∀ g, 0 < c → a = some ⟨g, 0, none⟩ → (O[k]).blk = some g ∨ wk.heap.size ≤ g
section
variable {base : Nat} {als : Option Addr} {cls : Nat} {O : List Sl} {w wk wr w1 w2 : World} {B k i : Nat} {hk : k < O.length} {a ags : Option Addr} {c cgs : Nat} {G : List Sl} {ys : List Value}
theorem LIn2.start (h : LSt2 base als cls O w B k ags cgs G wr) (hk : k < O.length) : ∃ ys, LIn2 base O k hk wr 0 (O[k]).a (O[k]).c ys wr := by
  obtain ⟨xs, h1, h2⟩ := h.lists k hk
  have hl := h1.1
  exact ⟨xs, h1, h2, by rw [List.take_of_length_le (by omega)]; exact h1, World.grownBy.refl _ _, fun g hc ha => .inl (Sl.blk_some hc ha)⟩
theorem LIn2.grown (h : LIn2 base O k hk wk i a c ys wr) (hg : wr.grownBy w2 none) : LIn2 base O k hk wk i a c ys w2 :=
  ⟨Own.grownNone h.row hg, h.marks.keep (KB.grown hg (fun g e => by cases e)), Own.grownNone h.list hg, grownBy_trans h.frame (grownBy_some hg _), h.place⟩
theorem LIn2.next (h : LIn2 base O k hk wk i a c ys wr) {g c' : Nat} {v : Value} (hv : Mk k ((O[k]).n + i) wr v)
    (ho : Own w1 base 22 1 (some ⟨g, 0, none⟩) ((O[k]).n + i + 1) c' (ys ++ [v])) (hg : GrewP wr w1 a c (some ⟨g, 0, none⟩) c') : LIn2 base O k hk wk (i + 1) (some ⟨g, 0, none⟩) c' (ys ++ [v]) w1 := by
  have hyl : ys.length = (O[k]).n + i := by have := h.row.1; omega
  have hkb := KB.app h.row (by decide) hg
  have hmk : Mks k w1 (ys ++ [v]) := (h.marks.keep hkb).push ((by rw [hyl]; exact hv : Mk k ys.length wr v).keep hkb)
  have htk : (ys ++ [v]).take (O[k]).n = ys.take (O[k]).n := by rw [List.take_append_of_le_length (by omega)]
  rcases hg with ⟨g1, e1, rfl, hc, hcc, hg⟩ | ⟨g1, e1, hs, hg⟩
  · injection e1 with e1; injection e1 with e1
    subst e1
    have hpl := h.place g hc rfl
    refine ⟨ho, hmk, ?_, ?_, fun g2 _ e2 => ?_⟩
    · rw [htk]
      by_cases hb : (O[k]).blk = some g
      · obtain ⟨hc2, ha2, _⟩ := own_blk h.list hb
        have hl := h.list
        show Own _ _ _ _ _ _ _ _
        have hl' : Own wr base 22 1 (O[k]).a (O[k]).n (O[k]).c (ys.take (O[k]).n) := hl
        rw [ha2] at hl' ⊢
        have hcap := own_cap h.row hl' hc hc2
        refine own_prefix hl' hc2 ho (by omega) htk (by omega)
      · refine Own.grownNe h.list hg fun g2 hc2 ha2 e2 => ?_
        injection e2 with e2
        subst e2
        exact hb (Sl.blk_some hc2 ha2)
    · rcases hpl with hb | hb
      · rw [hb]; exact grownBy_trans (by have := h.frame; rwa [hb] at this) hg
      · exact ⟨hg.os.trans h.frame.os, hg.tape.trans h.frame.tape, hg.output.trans h.frame.output, Nat.le_trans h.frame.size hg.size, fun b hb1 hb2 => (hg.block b (Nat.lt_of_lt_of_le hb1 h.frame.size) (by simp; omega)).trans (h.frame.block b hb1 hb2)⟩
    · injection e2 with e2; injection e2 with e2
      subst e2
      exact hpl
  · injection e1 with e1; injection e1 with e1
    subst e1
    refine ⟨ho, hmk, by rw [htk]; exact Own.grownNone h.list hg, grownBy_trans h.frame (grownBy_some hg _), fun g2 _ e2 => ?_⟩
    injection e2 with e2; injection e2 with e2
    subst e2
    exact .inr (Nat.le_trans h.frame.size hs)

/-- a region that appends may have come as far as its append -/
theorem LIn2.stay (h : LIn2 base O k hk wk i a c ys wr) (hc : Ch (In a c) wr w2) (ho : Own w2 base 22 1 a ((O[k]).n + i) c ys) : LIn2 base O k hk wk i a c ys w2 := by
  have hkb : KB wr w2 := fun b cs fr hb => (hc.block b (Array.getElem?_eq_some_iff.1 hb).1 (fun hi => by
    obtain ⟨cs', e', fr', h1, h2⟩ := Own.nb h.row (by decide) hi.1 hi.2
    rw [hb] at h1
    injection h1 with h1
    injection h1 with _ h3 _
    exact h2 h3.symm)).trans hb
  rcases Nat.eq_zero_or_pos c with h0 | h0
  · have hg : wr.grownBy w2 none := ⟨hc.os, hc.tape, hc.output, hc.size, fun b hb _ => hc.block b hb (fun hi => by have := hi.1; omega)⟩
    exact h.grown hg
  · obtain ⟨g, rfl, _, _⟩ := Own.block h.row h0
    have hg : wr.grownBy w2 (some g) := ⟨hc.os, hc.tape, hc.output, hc.size, fun b hb hne => hc.block b hb (fun hi => by
      obtain ⟨_, e⟩ := hi
      injection e with e; injection e with e
      exact hne (by rw [e]))⟩
    refine ⟨ho, h.marks.keep hkb, ?_, ?_, h.place⟩
    · by_cases hb : (O[k]).blk = some g
      · obtain ⟨hc2, ha2, _⟩ := own_blk h.list hb
        have hl := h.list
        show Own _ _ _ _ _ _ _ _
        have hl' : Own wr base 22 1 (O[k]).a (O[k]).n (O[k]).c (ys.take (O[k]).n) := hl
        rw [ha2] at hl' ⊢
        have hcap := own_cap h.row hl' h0 hc2
        exact own_prefix hl' hc2 ho (by omega) rfl (by omega)
      · refine Own.grownNe h.list hg fun g2 hc2 ha2 e2 => ?_
        injection e2 with e2
        subst e2
        exact hb (Sl.blk_some hc2 ha2)
    · rcases h.place g h0 rfl with hb | hb
      · rw [hb]; exact grownBy_trans (by have := h.frame; rwa [hb] at this) hg
      · exact ⟨hg.os.trans h.frame.os, hg.tape.trans h.frame.tape, hg.output.trans h.frame.output, Nat.le_trans h.frame.size hg.size, fun b hb1 hb2 => (hg.block b (Nat.lt_of_lt_of_le hb1 h.frame.size) (by simp; omega)).trans (h.frame.block b hb1 hb2)⟩

/-- a row of another type stays where list k's block is written -/
theorem own_ne' {e e' : TypeId} {base' : Nat} {n n' c' : Nat} {xs : List Value} {zs : List Value} {s : Sl} {a' : Option Addr} {u u' : World} (h : Own u base' e 1 a' n' c' zs) (h' : Own u base e' 1 s.a n s.c xs) (hn : n = s.n) (hne : e ≠ e') (hf : u.grownBy u' s.blk) : Own u' base' e 1 a' n' c' zs := by
  subst hn
  refine Own.grownNe h hf fun g1 hc1 ha1 hb1 => ?_
  obtain ⟨hc2, ha2, _⟩ := own_blk h' hb1
  rw [ha1] at h
  rw [ha2] at h'
  exact own_ne h h' hc1 hc2 hne rfl
theorem LSt2.outerIn (h : LSt2 base als cls O w B k ags cgs G wk) (hk : k < O.length) (hf : wk.grownBy wr (O[k]).blk) : OOwn wr base als O.length cls O := by
  obtain ⟨xs, h1, _⟩ := h.lists k hk
  exact own_ne' h.outer h1 rfl (by decide) hf
theorem LSt2.gsIn (h : LSt2 base als cls O w B k ags cgs G wk) (hk : k < O.length) (hf : wk.grownBy wr (O[k]).blk) : OOwn wr B ags k cgs G := by
  obtain ⟨xs, h1, _⟩ := h.lists k hk
  exact own_ne' h.gs h1 rfl (by decide) hf
theorem LSt2.kbIn (h : LSt2 base als cls O w B k ags cgs G wk) (hk : k < O.length) (hf : wk.grownBy wr (O[k]).blk) : KB wk wr := by
  obtain ⟨xs, h1, _⟩ := h.lists k hk
  exact KB.grown hf (fun g e => by obtain ⟨hc2, ha2, _⟩ := own_blk h1 e; exact Own.nb h1 (by decide) hc2 ha2)

/-- the copy is laid among the others -/
theorem LSt2.next (h : LSt2 base als cls O w B k ags cgs G wk) (hk : k < O.length) (hd : Distinct O) (h2 : LIn2 base O k hk wk 70 a c ys wr)
    {g cg : Nat} (ho : Own w1 B 24 1 (some ⟨g, 0, none⟩) (k + 1) cg (G.map Sl.val ++ [.slice a ((O[k]).n + 70) c])) (hg : GrewP wr w1 ags cgs (some ⟨g, 0, none⟩) cg) : LSt2 base als cls O w B (k + 1) (some ⟨g, 0, none⟩) cg (G ++ [⟨a, (O[k]).n + 70, c⟩]) w1 := by
  have hGl : G.length = k := by have := h.gs.1; simpa using this
  have gs' := h.gsIn hk h2.frame
  have kb1 := h.kbIn hk h2.frame
  have kb2 := KB.app gs' (by decide) hg
  have lists' : ∀ j (hj : j < O.length), ∃ xs, XOwn wr base O[j] xs ∧ Mks j wr xs := by
    intro j hj
    by_cases e : j = k
    · subst e; exact ⟨_, h2.list, h2.marks.take _⟩
    · obtain ⟨xs, h3, h4⟩ := h.lists j hj
      exact ⟨xs, Own.grownNe h3 h2.frame fun g1 hc1 ha1 hb1 => hd j k hj hk e g1 (Sl.blk_some hc1 ha1) hb1, h4.keep kb1⟩
  refine ⟨?_, by unfold OOwn; rw [List.map_append]; exact ho, fun j hj => ?_, fun j hj hG => ?_, ?_, ?_, h.baseB, h.oldO, h.oldL⟩
  · have o1 := h.outerIn hk h2.frame
    rcases hg with ⟨g1, e1, rfl, hc, hcc, hg⟩ | ⟨g1, e1, hs, hg⟩
    · refine Own.grownNe o1 hg fun g2 hc2 ha2 e2 => ?_
      injection e2 with e2
      subst e2
      have := h.oldO _ hc2 ha2
      obtain ⟨g3, e3, hb3, _⟩ := Own.block gs' hc
      rw [e1] at e3
      injection e3 with e3; injection e3 with e3
      omega
    · exact Own.grownNone o1 hg
  · obtain ⟨xs, h3, h4⟩ := lists' j hj
    exact ⟨xs, Own.grewOther h3 gs' hg (by decide), h4.keep kb2⟩
  · by_cases e : j = k
    · subst e
      have eG : (G ++ [(⟨a, (O[j]).n + 70, c⟩ : Sl)])[j] = ⟨a, (O[j]).n + 70, c⟩ := by
        rw [List.getElem_append_right (by omega)]; simp [hGl]
      rw [eG]
      refine ⟨rfl, ⟨ys, Own.grewOther h2.row gs' hg (by decide), h2.marks.keep kb2⟩, fun g1 hb1 => ?_⟩
      obtain ⟨hc, ha, _⟩ := own_blk (s := ⟨a, (O[j]).n + 70, c⟩) h2.row hb1
      rcases h2.place g1 hc ha with hp | hp
      · exact .inl hp
      · exact .inr (Nat.le_trans h.size hp)
    · have hjk : j < k := by simp at hG; omega
      have eG : (G ++ [(⟨a, (O[k]).n + 70, c⟩ : Sl)])[j] = G[j]'(by omega) := List.getElem_append_left (by omega)
      rw [eG]
      obtain ⟨e1, ⟨xs, e2, e4⟩, e3⟩ := h.done j hj (by omega)
      refine ⟨e1, ⟨xs, Own.grewOther (Own.grownNe e2 h2.frame fun g1 hc1 ha1 hb1 => ?_) gs' hg (by decide), (e4.keep kb1).keep kb2⟩, e3⟩
      rcases e3 g1 (Sl.blk_some hc1 ha1) with h5 | h5
      · exact hd j k hj hk e g1 h5 hb1
      · have := h.oldL k hk g1 hb1
        omega
  · have f1 : Below base wk wr := by
      refine ⟨h2.frame.os, h2.frame.tape, h2.frame.output, h2.frame.size, fun b hb => h2.frame.block b (by have := h.size; have := h.baseB; omega) fun e => ?_⟩
      obtain ⟨xs, h3, _⟩ := h.lists k hk
      have := (own_blk h3 e.symm).2.2.1
      omega
    refine h.below.trans (f1.trans ?_)
    rcases hg with ⟨g1, e1, rfl, hc, hcc, hg⟩ | ⟨g1, e1, hs, hg⟩
    · obtain ⟨g3, e3, hb3, _⟩ := Own.block gs' hc
      rw [e1] at e3
      injection e3 with e3; injection e3 with e3
      exact (Below.refl base wr).grown hg (by have := h.size; have := h.baseB; have := h2.frame.size; omega) (by rintro b ⟨⟩; have := h.baseB; omega)
    · exact (Below.refl base wr).grown hg (by have := h.size; have := h.baseB; have := h2.frame.size; omega) (by simp)
  · have := h.size
    have := h2.frame.size
    have := hg.grew.size
    omega

/-- phase 3: what is looked at -/
theorem LSt2.look (h : LSt2 base als cls O w B O.length ags cgs G wr) (k : Nat) (hk : k < O.length) :
    ∃ gl gg h c, als = some ⟨gl, 0, none⟩ ∧ ags = some ⟨gg, 0, none⟩ ∧ wr.cell? ⟨gl, k, none⟩ = some (.slice (O[k]).a (O[k]).n (O[k]).c) ∧ wr.cell? ⟨gg, k, none⟩ = some (.slice (some ⟨h, 0, none⟩) ((O[k]).n + 70) c) ∧
      (∀ i, i < (O[k]).n + 70 → ∃ b, wr.cell? ⟨h, i, none⟩ = some (.slice (some ⟨b, 0, none⟩) 3 3) ∧ BRow wr b 5 (mk3 k i)) ∧
      (∀ i, i < (O[k]).n → ∃ g b, (O[k]).a = some ⟨g, 0, none⟩ ∧ wr.cell? ⟨g, i, none⟩ = some (.slice (some ⟨b, 0, none⟩) 3 3) ∧ BRow wr b 5 (mk3 k i)) := by
  obtain ⟨gl, e1, _, _, c1, _⟩ := Own.cell h.outer k (by simpa using hk)
  have hGl : G.length = O.length := by have := h.gs.1; simpa using this
  obtain ⟨gg, e2, _, _, c2, _⟩ := Own.cell h.gs k (by simpa [hGl] using hk)
  have hG : k < G.length := by rw [hGl]; exact hk
  obtain ⟨d1, ⟨xs, d2, d4⟩, _⟩ := h.done k hk hG
  have hxl : xs.length = (O[k]).n + 70 := by have := d2.1; omega
  obtain ⟨hh, e3, _, _, _, _⟩ := Own.cell d2 0 (by omega)
  refine ⟨gl, gg, hh, (G[k]).c, e1, e2, by rw [c1]; simp [Sl.val], by rw [c2]; simp [Sl.val, e3, d1], fun i hi => ?_, fun i hi => ?_⟩
  · obtain ⟨h', e4, _, _, c4, _⟩ := Own.cell d2 i (by omega)
    rw [e3] at e4
    injection e4 with e4; injection e4 with e4
    subst e4
    obtain ⟨b, h5, h6⟩ := d4 i (by omega)
    exact ⟨b, by rw [c4, h5], h6⟩
  · obtain ⟨xo, h7, h8⟩ := h.lists k hk
    have hxo : xo.length = (O[k]).n := by have := h7.1; omega
    obtain ⟨g, e4, _, _, c4, _⟩ := Own.cell h7 i (by omega)
    obtain ⟨b, h5, h6⟩ := h8 i (by omega)
    exact ⟨g, b, e4, by rw [c4, h5], h6⟩
end

/-- what the call to ApartBytes leaves of rows of other things -/
theorem Own.keptT {w w' : World} {base b0 : Nat} {e : TypeId} {size : Nat} {a : Option Addr} {n c : Nat} {xs : List Value} (h : Own w base e size a n c xs) (hne : e ≠ 5) {L : List Sl} (hb : BelowT b0 L w w') : Own w' base e size a n c xs :=
  h.kept' fun hc g ha _ => hb.other g (h.nb hne hc ha)
end Go.Proofs.Ytfboddnpkaiifaa
/- strongroomkit.ApartLists. Printed by gens/aplistsw.py. -/
namespace Go.Proofs.Ytfboddnpkaiifaa
open Go.RowKit

theorem u8_ofNat (k : Nat) : IntKind.u8.wrap (k : Int) = ((UInt8.ofNat k).toNat : Int) := by
  rw [UInt8.toNat_ofNat']
  show (k : Int) % 256 = _
  omega
theorem tdiv256 (x : Int) (n : Nat) (h : x = (n : Int)) : x.tdiv 256 = ((n / 256 : Nat) : Int) := by
  subst h
  rfl
theorem flat_at {α : Type} (Ls : List (List α)) (k : Nat) (hk : k < Ls.length) (i : Nat) (hi : i ≤ (Ls[k]).length) : ((Ls.take k).flatten ++ (Ls[k]).take i).length ≤ Ls.flatten.length := by
  have h : Ls = Ls.take k ++ Ls[k] :: Ls.drop (k + 1) := by rw [← List.drop_eq_getElem_cons hk, List.take_append_drop]
  have h2 := congrArg (fun l => (List.flatten l).length) h
  simp only [List.flatten_append, List.length_append, List.flatten_cons] at h2
  rw [List.length_append, List.length_take]
  omega

set_option maxRecDepth 100000 in
set_option maxHeartbeats 4000000 in
theorem apartLists_any (base : Nat) (als : Option Addr) (cls : Nat) (O : List Sl) (Ls : List (List Sl)) (w : World) (ho : OOwn w base als O.length cls O) (hll : Ls.length = O.length)
    (hi : ∀ j (hj : j < O.length) (hj' : j < Ls.length), SOwn w base (O[j]).a (O[j]).n (O[j]).c Ls[j]) (hb : ∀ j (hj : j < Ls.flatten.length), ∃ l, BOwn w base (Ls.flatten[j]).a (Ls.flatten[j]).n (Ls.flatten[j]).c l)
    (hd : Distinct O) (hdf : Distinct Ls.flatten) (hbase : base ≤ w.heap.size) (hK : O.length ≤ 1000) (hM : Ls.flatten.length ≤ 10000000) (hN : ∀ j (hj : j < Ls.flatten.length), (Ls.flatten[j]).n ≤ 100000000) :
    Calls Try.prog 20 #[.slice als O.length cls] w fun e w' => e = .returned (.bool true) ∧ Below base w w' := by
  have HO := Lib.hid ho
  have HLL := Lib.hid hll
  have HI := Lib.hid hi
  have HB := Lib.hid hb
  have HD := Lib.hid hd
  have HDF := Lib.hid hdf
  have HM := Lib.hid hM
  have HN := Lib.hid hN
  clear ho hll hi hb hd hdf hM hN
  go_enter Try.func20, Try.ntmps20
  go_wp2_with fail
  go_loopw [3, 4] (fun va vk wr => ∃ (k m : Nat) (aA : Option Addr) (cA : Nat), k ≤ O.length ∧ vk = .int .i64 k ∧ va = .slice aA m cA ∧ SOwn wr w.heap.size aA m cA (Ls.take k).flatten ∧ w.grownBy wr none) (fun _ vk _ => O.length - (intOf vk).toNat)
  case atStart => exact ⟨0, 0, none, 0, by omega, rfl, rfl, Own.nil _ _ _ _ _, World.grownBy.refl _ _⟩
  case round =>
    obtain ⟨k, m, aA, cA, hk, rfl, rfl, hown, hg⟩ := hrel
    have HOWN := Lib.hid hown
    have HG := Lib.hid hg
    clear hown hg
    by_cases hlt : k < O.length
    · obtain ⟨gl, rfl, _, _, hcs, _⟩ := Own.cell HO.out k (by simpa using hlt)
      have hcs' : w.cell? ⟨gl, k, none⟩ = some (.slice (O[k]).a (O[k]).n (O[k]).c) := by rw [hcs]; simp [Sl.val]
      have HCS : Hid (∀ u, w.grownBy u none → u.cell? ⟨gl, k, none⟩ = some (.slice (O[k]).a (O[k]).n (O[k]).c)) := Lib.hid (fun u hu => (World.cell?_of_block (hu.block gl (World.block_lt_of_cell? _ _ hcs') (by simp))).trans hcs')
      clear hcs hcs'
      have hkl : k < Ls.length := by rw [HLL.out]; exact hlt
      have hLo := HI.out k hlt hkl
      have hLn : (Ls[k]).length = (O[k]).n := SOwn.len hLo
      have HLO := Lib.hid hLo
      have HLN := Lib.hid hLn
      have hnb : (O[k]).n ≤ 10000000 := by
        have h4 := flat_at Ls k hkl (O[k]).n (by omega)
        rw [List.length_append, List.length_take] at h4
        have h5 := HM.out
        omega
      clear hLo hLn
      go_wp2_with fail
      go_loopw [3, 5] (fun va vi wr2 => ∃ (i m : Nat) (aA : Option Addr) (cA : Nat), i ≤ (O[k]).n ∧ vi = .int .i64 i ∧ va = .slice aA m cA ∧ SOwn wr2 w.heap.size aA m cA ((Ls.take k).flatten ++ (Ls[k]).take i) ∧ w.grownBy wr2 none) (fun _ vi _ => (O[k]).n - (intOf vi).toNat)
      case atStart => exact ⟨0, m, aA, cA, by omega, rfl, rfl, by simpa using HOWN.out, HG.out⟩
      case round =>
        obtain ⟨i, m, aA, cA, hi, rfl, rfl, hown, hg⟩ := hrel
        replace HOWN := Lib.hid hown
        replace HG := Lib.hid hg
        have hc1 := HCS.out _ hg
        have hmb : m ≤ 10000000 := by have h1 := SOwn.len hown; have h2 := flat_at Ls k hkl i (by rw [HLN.out]; exact hi); have h3 := HM.out; omega
        have hsz := hg.size
        clear hown hg
        by_cases hlt2 : i < (O[k]).n
        · have hil : i < (Ls[k]).length := by rw [HLN.out]; exact hlt2
          obtain ⟨s, hs⟩ : ∃ s, s = (Ls[k])[i] := ⟨_, rfl⟩
          obtain ⟨g, hga, _, _, hc2, _⟩ := Own.cell HLO.out i (by rw [List.length_map]; exact hil)
          have hc2' : wr.cell? ⟨g, i, none⟩ = some (.slice s.a s.n s.c) := (World.cell?_of_block (HG.out.block g (World.block_lt_of_cell? _ _ hc2) (by simp))).trans (by rw [hc2, hs]; simp [Sl.val])
          clear hc2
          rw [hga] at hc1
          have HGA := Lib.hid hga
          have HS := Lib.hid hs
          clear hga hs
          go_wp2_with (at_builtin; refine wpList_push elS rfl (.tmp 30) (.tmp 38) rfl rfl HOWN.out (.slice s.a s.n s.c) rfl rfl (by unfold maxLen; omega) (by omega) hsz ?_; intro g5 c5 w5 hown5 hgr5; have HO5 := Lib.hid hown5; have HGR5 := Lib.hid hgr5; clear hown5 hgr5)
          go_roundw
          case rel => exact ⟨i + 1, m + 1, _, _, by omega, by go_num, rfl, by
            have e : (Ls.take k).flatten ++ (Ls[k]).take (i + 1) = ((Ls.take k).flatten ++ (Ls[k]).take i) ++ [s] := by rw [List.take_succ_eq_append_getElem hil, HS.out, List.append_assoc]
            unfold SOwn
            rw [e, List.map_append]
            exact HO5.out, HGR5.out.grew.grown HOWN.out HG.out (Nat.le_refl _)⟩
          case measure => simp [intOf]; omega
        · obtain rfl : i = (O[k]).n := by omega
          go_wp2_with fail
          go_roundw
          case rel => exact ⟨k + 1, m, _, _, by omega, by go_num, rfl, by
            have h := HOWN.out
            have e2 : (Ls[k]).take (O[k]).n = Ls[k] := List.take_of_length_le (by rw [HLN.out]; exact Nat.le_refl _)
            rw [e2] at h
            have e : (Ls.take (k + 1)).flatten = (Ls.take k).flatten ++ Ls[k] := by rw [List.take_succ_eq_append_getElem hkl, List.flatten_append]; simp
            rw [e]
            exact h, HG.out⟩
          case measure => simp [intOf]; omega
    · obtain rfl : k = O.length := by omega
      have hfl : (Ls.take O.length).flatten = Ls.flatten := by rw [List.take_of_length_le (by rw [HLL.out]; exact Nat.le_refl _)]
      rw [hfl] at HOWN
      have hml : Ls.flatten.length = m := SOwn.len HOWN.out
      have hwz := HG.out.size
      have hst : TSt1 base aA cA Ls.flatten wr 0 0 wr := tst1_own (n := m) (Own.mono HOWN.out hbase) (fun j hj => by
        obtain ⟨l, h1⟩ := HB.out j hj
        exact ⟨l, h1.grown HG.out⟩)
      have HST := Lib.hid hst
      have HML := Lib.hid hml
      clear hst hml hfl
      go_wp2_with fail
      refine (apartT_n base aA cA m Ls.flatten wr HST.out (by omega) HDF.out HML.out (by have := HM.out; have := HML.out; omega) HN.out).mono ?_
      rintro e w2 ⟨rfl, hbel⟩
      have hs1 : LSt1 base als cls O w 0 0 w2 := ⟨Own.keptT (Own.grownNone HO.out HG.out) (by decide) hbel, fun j hj => by
        have hj' : j < Ls.length := by rw [HLL.out]; exact hj
        exact ⟨_, Own.keptT (Own.grownNone (HI.out j hj hj') HG.out) (by decide) hbel, fun m hm h => by rcases h with h | ⟨_, h⟩ <;> omega⟩, (((Below.refl base w).grown HG.out hbase (by simp)).trans hbel.toBelow), Nat.le_trans hbase (Nat.le_trans hwz hbel.toBelow.size)⟩
      have HS1 := Lib.hid hs1
      clear hs1 hbel HST HOWN HG hwz
      go_wp2_with fail
      go_loopw [6] (fun vk wr => ∃ k : Nat, k ≤ O.length ∧ vk = .int .i64 k ∧ LSt1 base als cls O w k 0 wr) (fun vk _ => O.length - (intOf vk).toNat)
      case atStart => exact ⟨0, by omega, rfl, HS1.out⟩
      case round =>
        obtain ⟨k, hk, rfl, hst⟩ := hrel
        have HST := Lib.hid hst
        clear hst HS1
        by_cases hlt : k < O.length
        · obtain ⟨gl, e1, _, _, hcs, _⟩ := Own.cell HST.out.outer k (by simpa using hlt)
          go_wp2_with fail
          go_loopw [7] (fun vi wr => ∃ i : Nat, i ≤ (O[k]).n ∧ vi = .int .i64 i ∧ LSt1 base als cls O w k i wr) (fun vi _ => (O[k]).n - (intOf vi).toNat)
          case atStart => exact ⟨0, by omega, rfl, HST.out⟩
          case round =>
            obtain ⟨i, hi, rfl, hst⟩ := hrel
            replace HST := Lib.hid hst
            clear hst hcs
            obtain ⟨gl2, e2, _, _, hcs, _⟩ := Own.cell HST.out.outer k (by simpa using hlt)
            rw [e1] at e2
            obtain rfl : gl = gl2 := by simpa using e2
            have hcs' : wr.cell? ⟨gl, k, none⟩ = some (.slice (O[k]).a (O[k]).n (O[k]).c) := by rw [hcs]; simp [Sl.val]
            clear hcs e2
            subst e1
            by_cases hlt2 : i < (O[k]).n
            · have hnb : (O[k]).n ≤ 10000000000 := by
                obtain ⟨xs, h1, _⟩ := HST.out.inner k hlt
                have h2 := (HI.out k hlt (by rw [HLL.out]; exact hlt))
                have h3 : (Ls[k]'(by rw [HLL.out]; exact hlt)).length = (O[k]).n := SOwn.len h2
                have h4 := flat_at Ls k (by rw [HLL.out]; exact hlt) (O[k]).n (by omega)
                rw [List.length_append, List.length_take] at h4
                have h5 := HM.out
                omega
              obtain ⟨x1, hx1⟩ : ∃ x1 : Int, x1 = ((UInt8.ofNat k).toNat : Int) := ⟨_, rfl⟩
              obtain ⟨x2, hx2⟩ : ∃ x2 : Int, x2 = ((UInt8.ofNat (i)).toNat : Int) := ⟨_, rfl⟩
              obtain ⟨x3, hx3⟩ : ∃ x3 : Int, x3 = ((UInt8.ofNat ((i) / 256)).toNat : Int) := ⟨_, rfl⟩
              obtain ⟨q, hq⟩ : ∃ q : Int, q = (((i) / 256 : Nat) : Int) := ⟨_, rfl⟩
              have hw1 : IntKind.u8.wrap (k : Int) = x1 := by rw [hx1]; exact u8_ofNat _
              have hw2 : IntKind.u8.wrap ((i : Int)) = x2 := by rw [hx2, ← u8_ofNat]
              have hw3 : IntKind.u8.wrap q = x3 := by rw [hx3, hq]; exact u8_ofNat _
              have hq1 : ((i : Int)).tdiv 256 = q := by rw [hq]; exact tdiv256 _ _ (by omega)
              have hq2 : ((i : Int)) / 256 = q := by rw [hq]; omega
              have hq3 : IntKind.i64.wrap q = q := IntWalk.i64_in _ (by omega)
              have hrb : rowB (mk3 k (i)) = #[.int .u8 x1, .int .u8 x2, .int .u8 x3] := by rw [hx1, hx2, hx3]; rfl
              clear hx1 hx2 hx3 hq
              have ha := World.grownBy_alloc wr (.cells #[.int .u8 x1, .int .u8 x2, .int .u8 x3] 5) none
              obtain ⟨w3, hw3⟩ : ∃ w3, w3 = wr.alloc (.cells #[.int .u8 x1, .int .u8 x2, .int .u8 x3] 5) := ⟨_, rfl⟩
              have hmk : Mk k i w3 (.slice (some ⟨wr.heap.size, 0, none⟩) 3 3) := ⟨_, rfl, by unfold BRow; rw [hrb, hw3]; exact heap_alloc_new wr _⟩
              rw [← hw3] at ha
              obtain ⟨g, hga, ⟨u, hu⟩, hf, hst'⟩ := (HST.out.grown ha).store HD.out hlt hlt2 hmk
              have HST' := Lib.hid hst'
              have HGA := Lib.hid hga
              rw [hw3] at hu hf
              rw [hga] at hcs'
              clear hst' hga hmk ha hrb
              go_wp2_with fail
              rw [← hw3]
              go_roundw
              case rel => exact ⟨i + 1, by omega, by go_num, HST'.out⟩
              case measure => simp [intOf]; omega
            · obtain rfl : i = (O[k]).n := by omega
              go_wp2_with fail
              go_roundw
              case rel => exact ⟨k + 1, by omega, by go_num, HST.out.next hlt rfl⟩
              case measure => simp [intOf]; omega
        · obtain rfl : k = O.length := by omega
          obtain ⟨wk, rfl⟩ : ∃ wk : World, wk = wr := ⟨_, rfl⟩
          have HS2 := Lib.hid (LSt2.start HST.out)
          clear HST
          go_wp2_with fail
          go_loopw [8, 9] (fun v vk wr => ∃ (k : Nat) (ags : Option Addr) (cgs : Nat) (G : List Sl), k ≤ O.length ∧ vk = .int .i64 k ∧ v = .slice ags k cgs ∧ LSt2 base als cls O w wk.heap.size k ags cgs G wr) (fun _ vk _ => O.length - (intOf vk).toNat)
          case atStart => exact ⟨0, none, 0, [], by omega, rfl, rfl, HS2.out⟩
          case round =>
            obtain ⟨k, ags, cgs, G, hk, rfl, rfl, hst⟩ := hrel
            have HST := Lib.hid hst
            clear hst
            by_cases hlt : k < O.length
            · obtain ⟨gl, e1, _, _, hcs, _⟩ := Own.cell HST.out.outer k (by simpa using hlt)
              have hcs' : wr.cell? ⟨gl, k, none⟩ = some (.slice (O[k]).a (O[k]).n (O[k]).c) := by rw [hcs]; simp [Sl.val]
              clear hcs
              obtain rfl := e1
              go_wp2_with fail
              obtain ⟨wo, rfl⟩ : ∃ wo : World, wo = wr := ⟨_, rfl⟩
              go_loopw [10, 11] (fun v vi wr => ∃ (i : Nat) (a : Option Addr) (c : Nat) (ys : List Value), i ≤ 70 ∧ vi = .int .i64 i ∧ v = .slice a ((O[k]).n + i) c ∧ LIn2 base O k hlt wo i a c ys wr) (fun _ vi _ => 70 - (intOf vi).toNat)
              case atStart =>
                obtain ⟨ys, hys⟩ := LIn2.start HST.out hlt
                exact ⟨0, _, _, ys, by omega, rfl, rfl, hys⟩
              case round =>
                obtain ⟨i, a, c, ys, hi, rfl, rfl, hin⟩ := hrel
                have HIN := Lib.hid hin
                clear hin hcs'
                have hsz : base ≤ wr.heap.size := Nat.le_trans HST.out.baseB (Nat.le_trans HST.out.size HIN.out.frame.size)
                have HSZ := Lib.hid hsz
                have hnb : (O[k]).n ≤ 10000000 := by
                  have h2 := (HI.out k hlt (by rw [HLL.out]; exact hlt))
                  have h3 : (Ls[k]'(by rw [HLL.out]; exact hlt)).length = (O[k]).n := SOwn.len h2
                  have h4 := flat_at Ls k (by rw [HLL.out]; exact hlt) (O[k]).n (by omega)
                  rw [List.length_append, List.length_take] at h4
                  have h5 := HM.out
                  omega
                by_cases hi70 : i < 70
                · obtain ⟨N, hNN⟩ : ∃ N, N = (O[k]).n := ⟨_, rfl⟩
                  have hO1 := HST.out.outerIn hlt HIN.out.frame
                  have hrow := HIN.out.row
                  rw [← hNN] at hnb hrow ⊢
                  have HOR := Lib.hid hrow
                  have HNN := Lib.hid hNN
                  have hcl : ∀ u, Ch (In a c) wr u → u.cell? ⟨gl, k, none⟩ = some (.slice (O[k]).a N (O[k]).c) := fun u hu => by
                    obtain ⟨gl2, e2, _, _, hcs, _⟩ := Own.cell hO1 k (by simpa using hlt)
                    obtain rfl : gl = gl2 := by simpa using e2
                    have h1 : wr.cell? ⟨gl, k, none⟩ = some (.slice (O[k]).a N (O[k]).c) := by rw [hcs, hNN]; simp [Sl.val]
                    exact (World.cell?_of_block (hu.block gl (World.block_lt_of_cell? _ _ h1) (fun h => by
                      obtain ⟨h3, h4⟩ := h
                      have h5 := HOR.out
                      rw [h4] at h5
                      have hcp : 0 < cls := by have := (Own.cap hO1).1; omega
                      exact own_ne hO1 h5 hcp h3 (by decide) rfl))).trans h1
                  have HC1 := Lib.hid hcl
                  clear hO1 hrow hcl hNN hsz
                  obtain ⟨x1, hx1⟩ : ∃ x1 : Int, x1 = ((UInt8.ofNat k).toNat : Int) := ⟨_, rfl⟩
                  obtain ⟨x2, hx2⟩ : ∃ x2 : Int, x2 = ((UInt8.ofNat (N + i)).toNat : Int) := ⟨_, rfl⟩
                  obtain ⟨x3, hx3⟩ : ∃ x3 : Int, x3 = ((UInt8.ofNat ((N + i) / 256)).toNat : Int) := ⟨_, rfl⟩
                  obtain ⟨q, hq⟩ : ∃ q : Int, q = (((N + i) / 256 : Nat) : Int) := ⟨_, rfl⟩
                  have hw1 : IntKind.u8.wrap (k : Int) = x1 := by rw [hx1]; exact u8_ofNat _
                  have hw2 : IntKind.u8.wrap ((N : Int) + (i : Int)) = x2 := by rw [hx2, ← u8_ofNat]; rfl
                  have hw3 : IntKind.u8.wrap q = x3 := by rw [hx3, hq]; exact u8_ofNat _
                  have hq1 : ((N : Int) + (i : Int)).tdiv 256 = q := by rw [hq]; exact tdiv256 _ _ (by omega)
                  have hq2 : ((N : Int) + (i : Int)) / 256 = q := by rw [hq]; omega
                  have hq3 : IntKind.i64.wrap q = q := IntWalk.i64_in _ (by omega)
                  have hrb : rowB (mk3 k (N + i)) = #[.int .u8 x1, .int .u8 x2, .int .u8 x3] := by rw [hx1, hx2, hx3]; rfl
                  clear hx1 hx2 hx3 hq
                  have hsum : IntKind.i64.wrap ((N : Int) + (i : Int)) = (N : Int) + (i : Int) := IntWalk.i64_in _ (by omega)
                  have HRB := Lib.hid hrb
                  clear hrb
                  go_upto_region 26 with fail
                  refine wp_regionX (AppS wr base 22 a (N + i) c ys) 23 (by kernel_rfl) ⟨Ch.ofNone (grownBy_drewN wr 1 none) _, HOR.out⟩ ?_
                  refine wpX_take 0 (v := .slice a (N + i) c) (oi := { dst := some 86, op := Op.move (Operand.tmp 10), type := 24, pos := "nested.go:89", after := #[], guard := none }) (oL := { dst := some 10, op := Op.assign (Operand.tmp 108), type := 24, pos := "nested.go:89", after := #[{ on := 22, ground := Ground.data }, { on := 22, ground := Ground.chain }, { on := 0, ground := Ground.phase }, { on := 1, ground := Ground.phase }, { on := 2, ground := Ground.phase }, { on := 3, ground := Ground.phase }, { on := 4, ground := Ground.phase }, { on := 5, ground := Ground.phase }, { on := 6, ground := Ground.phase }, { on := 7, ground := Ground.phase }, { on := 8, ground := Ground.phase }, { on := 9, ground := Ground.phase }, { on := 10, ground := Ground.phase }, { on := 11, ground := Ground.phase }, { on := 12, ground := Ground.phase }, { on := 13, ground := Ground.phase }, { on := 14, ground := Ground.phase }, { on := 15, ground := Ground.phase }, { on := 16, ground := Ground.phase }, { on := 17, ground := Ground.phase }, { on := 18, ground := Ground.phase }, { on := 19, ground := Ground.phase }, { on := 20, ground := Ground.phase }, { on := 21, ground := Ground.phase }, { on := 22, ground := Ground.phase }], guard := none }) (clo_app _ _ _ _ _ _ _) rfl rfl rfl (by kernel_rfl) (by kernel_rfl) (by kernel_rfl) (by kernel_rfl) (by kernel_rfl) (fun _ _ _ h => h) (YG.val (by rfl) (fun _ _ => rfl)) ?_
                  simp only [Act.put, List.setIfInBounds_toArray, List.set_cons_zero, List.set_cons_succ]
                  refine wpX_take 1 (v := .int .i64 (k : Int)) (oi := { dst := some 87, op := Op.move (Operand.tmp 9), type := 3, pos := "nested.go:89", after := #[], guard := none }) (oL := { dst := some 10, op := Op.assign (Operand.tmp 108), type := 24, pos := "nested.go:89", after := #[{ on := 22, ground := Ground.data }, { on := 22, ground := Ground.chain }, { on := 0, ground := Ground.phase }, { on := 1, ground := Ground.phase }, { on := 2, ground := Ground.phase }, { on := 3, ground := Ground.phase }, { on := 4, ground := Ground.phase }, { on := 5, ground := Ground.phase }, { on := 6, ground := Ground.phase }, { on := 7, ground := Ground.phase }, { on := 8, ground := Ground.phase }, { on := 9, ground := Ground.phase }, { on := 10, ground := Ground.phase }, { on := 11, ground := Ground.phase }, { on := 12, ground := Ground.phase }, { on := 13, ground := Ground.phase }, { on := 14, ground := Ground.phase }, { on := 15, ground := Ground.phase }, { on := 16, ground := Ground.phase }, { on := 17, ground := Ground.phase }, { on := 18, ground := Ground.phase }, { on := 19, ground := Ground.phase }, { on := 20, ground := Ground.phase }, { on := 21, ground := Ground.phase }, { on := 22, ground := Ground.phase }], guard := none }) (clo_app _ _ _ _ _ _ _) rfl rfl rfl (by kernel_rfl) (by kernel_rfl) (by kernel_rfl) (by kernel_rfl) (by kernel_rfl) (fun _ _ _ h => h) (YG.val (by rfl) (fun _ _ => rfl)) ?_
                  simp only [Act.put, List.setIfInBounds_toArray, List.set_cons_zero, List.set_cons_succ]
                  refine wpX_take 2 (v := .int .u8 x1) (oi := { dst := some 88, op := Op.convert 3 5 (Operand.tmp 87), type := 5, pos := "nested.go:89", after := #[{ on := 1, ground := Ground.data }], guard := none }) (oL := { dst := some 10, op := Op.assign (Operand.tmp 108), type := 24, pos := "nested.go:89", after := #[{ on := 22, ground := Ground.data }, { on := 22, ground := Ground.chain }, { on := 0, ground := Ground.phase }, { on := 1, ground := Ground.phase }, { on := 2, ground := Ground.phase }, { on := 3, ground := Ground.phase }, { on := 4, ground := Ground.phase }, { on := 5, ground := Ground.phase }, { on := 6, ground := Ground.phase }, { on := 7, ground := Ground.phase }, { on := 8, ground := Ground.phase }, { on := 9, ground := Ground.phase }, { on := 10, ground := Ground.phase }, { on := 11, ground := Ground.phase }, { on := 12, ground := Ground.phase }, { on := 13, ground := Ground.phase }, { on := 14, ground := Ground.phase }, { on := 15, ground := Ground.phase }, { on := 16, ground := Ground.phase }, { on := 17, ground := Ground.phase }, { on := 18, ground := Ground.phase }, { on := 19, ground := Ground.phase }, { on := 20, ground := Ground.phase }, { on := 21, ground := Ground.phase }, { on := 22, ground := Ground.phase }], guard := none }) (clo_app _ _ _ _ _ _ _) rfl rfl rfl (by kernel_rfl) (by kernel_rfl) (by kernel_rfl) (by kernel_rfl) (by kernel_rfl) (fun _ _ _ h => h) (YG.val (by rfl) (fun _ _ => by go_simp)) ?_
                  simp only [Act.put, List.setIfInBounds_toArray, List.set_cons_zero, List.set_cons_succ]
                  refine wpX_take 3 (v := .slice (some ⟨gl, 0, none⟩) O.length cls) (oi := { dst := some 89, op := Op.move (Operand.tmp 0), type := 32, pos := "nested.go:89", after := #[], guard := none }) (oL := { dst := some 10, op := Op.assign (Operand.tmp 108), type := 24, pos := "nested.go:89", after := #[{ on := 22, ground := Ground.data }, { on := 22, ground := Ground.chain }, { on := 0, ground := Ground.phase }, { on := 1, ground := Ground.phase }, { on := 2, ground := Ground.phase }, { on := 3, ground := Ground.phase }, { on := 4, ground := Ground.phase }, { on := 5, ground := Ground.phase }, { on := 6, ground := Ground.phase }, { on := 7, ground := Ground.phase }, { on := 8, ground := Ground.phase }, { on := 9, ground := Ground.phase }, { on := 10, ground := Ground.phase }, { on := 11, ground := Ground.phase }, { on := 12, ground := Ground.phase }, { on := 13, ground := Ground.phase }, { on := 14, ground := Ground.phase }, { on := 15, ground := Ground.phase }, { on := 16, ground := Ground.phase }, { on := 17, ground := Ground.phase }, { on := 18, ground := Ground.phase }, { on := 19, ground := Ground.phase }, { on := 20, ground := Ground.phase }, { on := 21, ground := Ground.phase }, { on := 22, ground := Ground.phase }], guard := none }) (clo_app _ _ _ _ _ _ _) rfl rfl rfl (by kernel_rfl) (by kernel_rfl) (by kernel_rfl) (by kernel_rfl) (by kernel_rfl) (fun _ _ _ h => h) (YG.val (by rfl) (fun _ _ => rfl)) ?_
                  simp only [Act.put, List.setIfInBounds_toArray, List.set_cons_zero, List.set_cons_succ]
                  refine wpX_take 4 (v := .int .i64 (k : Int)) (oi := { dst := some 90, op := Op.move (Operand.tmp 9), type := 3, pos := "nested.go:89", after := #[], guard := none }) (oL := { dst := some 10, op := Op.assign (Operand.tmp 108), type := 24, pos := "nested.go:89", after := #[{ on := 22, ground := Ground.data }, { on := 22, ground := Ground.chain }, { on := 0, ground := Ground.phase }, { on := 1, ground := Ground.phase }, { on := 2, ground := Ground.phase }, { on := 3, ground := Ground.phase }, { on := 4, ground := Ground.phase }, { on := 5, ground := Ground.phase }, { on := 6, ground := Ground.phase }, { on := 7, ground := Ground.phase }, { on := 8, ground := Ground.phase }, { on := 9, ground := Ground.phase }, { on := 10, ground := Ground.phase }, { on := 11, ground := Ground.phase }, { on := 12, ground := Ground.phase }, { on := 13, ground := Ground.phase }, { on := 14, ground := Ground.phase }, { on := 15, ground := Ground.phase }, { on := 16, ground := Ground.phase }, { on := 17, ground := Ground.phase }, { on := 18, ground := Ground.phase }, { on := 19, ground := Ground.phase }, { on := 20, ground := Ground.phase }, { on := 21, ground := Ground.phase }, { on := 22, ground := Ground.phase }], guard := none }) (clo_app _ _ _ _ _ _ _) rfl rfl rfl (by kernel_rfl) (by kernel_rfl) (by kernel_rfl) (by kernel_rfl) (by kernel_rfl) (fun _ _ _ h => h) (YG.val (by rfl) (fun _ _ => rfl)) ?_
                  simp only [Act.put, List.setIfInBounds_toArray, List.set_cons_zero, List.set_cons_succ]
                  refine wpX_take 5 (v := .pointer (some ⟨gl, k, none⟩)) (oi := { dst := some 91, op := Op.indexAddr 32 (Operand.tmp 89) (Operand.tmp 90), type := 0, pos := "nested.go:89", after := #[{ on := 3, ground := Ground.data }, { on := 4, ground := Ground.data }], guard := none }) (oL := { dst := some 10, op := Op.assign (Operand.tmp 108), type := 24, pos := "nested.go:89", after := #[{ on := 22, ground := Ground.data }, { on := 22, ground := Ground.chain }, { on := 0, ground := Ground.phase }, { on := 1, ground := Ground.phase }, { on := 2, ground := Ground.phase }, { on := 3, ground := Ground.phase }, { on := 4, ground := Ground.phase }, { on := 5, ground := Ground.phase }, { on := 6, ground := Ground.phase }, { on := 7, ground := Ground.phase }, { on := 8, ground := Ground.phase }, { on := 9, ground := Ground.phase }, { on := 10, ground := Ground.phase }, { on := 11, ground := Ground.phase }, { on := 12, ground := Ground.phase }, { on := 13, ground := Ground.phase }, { on := 14, ground := Ground.phase }, { on := 15, ground := Ground.phase }, { on := 16, ground := Ground.phase }, { on := 17, ground := Ground.phase }, { on := 18, ground := Ground.phase }, { on := 19, ground := Ground.phase }, { on := 20, ground := Ground.phase }, { on := 21, ground := Ground.phase }, { on := 22, ground := Ground.phase }], guard := none }) (clo_app _ _ _ _ _ _ _) rfl rfl rfl (by kernel_rfl) (by kernel_rfl) (by kernel_rfl) (by kernel_rfl) (by kernel_rfl) (fun _ _ _ h => h) (YG.val (by rfl) (fun _ _ => by go_simp)) ?_
                  simp only [Act.put, List.setIfInBounds_toArray, List.set_cons_zero, List.set_cons_succ]
                  refine wpX_take 6 (v := .slice (O[k]).a N (O[k]).c) (oi := { dst := some 92, op := Op.load 24 (Operand.tmp 91), type := 24, pos := "nested.go:89", after := #[{ on := 5, ground := Ground.data }], guard := none }) (oL := { dst := some 10, op := Op.assign (Operand.tmp 108), type := 24, pos := "nested.go:89", after := #[{ on := 22, ground := Ground.data }, { on := 22, ground := Ground.chain }, { on := 0, ground := Ground.phase }, { on := 1, ground := Ground.phase }, { on := 2, ground := Ground.phase }, { on := 3, ground := Ground.phase }, { on := 4, ground := Ground.phase }, { on := 5, ground := Ground.phase }, { on := 6, ground := Ground.phase }, { on := 7, ground := Ground.phase }, { on := 8, ground := Ground.phase }, { on := 9, ground := Ground.phase }, { on := 10, ground := Ground.phase }, { on := 11, ground := Ground.phase }, { on := 12, ground := Ground.phase }, { on := 13, ground := Ground.phase }, { on := 14, ground := Ground.phase }, { on := 15, ground := Ground.phase }, { on := 16, ground := Ground.phase }, { on := 17, ground := Ground.phase }, { on := 18, ground := Ground.phase }, { on := 19, ground := Ground.phase }, { on := 20, ground := Ground.phase }, { on := 21, ground := Ground.phase }, { on := 22, ground := Ground.phase }], guard := none }) (clo_app _ _ _ _ _ _ _) rfl rfl rfl (by kernel_rfl) (by kernel_rfl) (by kernel_rfl) (by kernel_rfl) (by kernel_rfl) (fun _ _ _ h => h) (YG.val (by rfl) (fun u hu => by have hc1 := HC1.out u hu.1; go_simp)) ?_
                  simp only [Act.put, List.setIfInBounds_toArray, List.set_cons_zero, List.set_cons_succ]
                  refine wpX_take 7 (v := .int .i64 (N : Int)) (oi := { dst := some 93, op := Op.call { callee := Callee.builtin Builtin.len, args := #[Operand.tmp 92], argTypes := #[24] }, type := 3, pos := "nested.go:89", after := #[{ on := 6, ground := Ground.data }], guard := none }) (oL := { dst := some 10, op := Op.assign (Operand.tmp 108), type := 24, pos := "nested.go:89", after := #[{ on := 22, ground := Ground.data }, { on := 22, ground := Ground.chain }, { on := 0, ground := Ground.phase }, { on := 1, ground := Ground.phase }, { on := 2, ground := Ground.phase }, { on := 3, ground := Ground.phase }, { on := 4, ground := Ground.phase }, { on := 5, ground := Ground.phase }, { on := 6, ground := Ground.phase }, { on := 7, ground := Ground.phase }, { on := 8, ground := Ground.phase }, { on := 9, ground := Ground.phase }, { on := 10, ground := Ground.phase }, { on := 11, ground := Ground.phase }, { on := 12, ground := Ground.phase }, { on := 13, ground := Ground.phase }, { on := 14, ground := Ground.phase }, { on := 15, ground := Ground.phase }, { on := 16, ground := Ground.phase }, { on := 17, ground := Ground.phase }, { on := 18, ground := Ground.phase }, { on := 19, ground := Ground.phase }, { on := 20, ground := Ground.phase }, { on := 21, ground := Ground.phase }, { on := 22, ground := Ground.phase }], guard := none }) (clo_app _ _ _ _ _ _ _) rfl rfl rfl (by kernel_rfl) (by kernel_rfl) (by kernel_rfl) (by kernel_rfl) (by kernel_rfl) (fun _ _ _ h => h) (YG.val (by rfl) (fun _ _ => by go_simp)) ?_
                  simp only [Act.put, List.setIfInBounds_toArray, List.set_cons_zero, List.set_cons_succ]
                  refine wpX_take 8 (v := .int .i64 (i : Int)) (oi := { dst := some 94, op := Op.move (Operand.tmp 11), type := 3, pos := "nested.go:89", after := #[], guard := none }) (oL := { dst := some 10, op := Op.assign (Operand.tmp 108), type := 24, pos := "nested.go:89", after := #[{ on := 22, ground := Ground.data }, { on := 22, ground := Ground.chain }, { on := 0, ground := Ground.phase }, { on := 1, ground := Ground.phase }, { on := 2, ground := Ground.phase }, { on := 3, ground := Ground.phase }, { on := 4, ground := Ground.phase }, { on := 5, ground := Ground.phase }, { on := 6, ground := Ground.phase }, { on := 7, ground := Ground.phase }, { on := 8, ground := Ground.phase }, { on := 9, ground := Ground.phase }, { on := 10, ground := Ground.phase }, { on := 11, ground := Ground.phase }, { on := 12, ground := Ground.phase }, { on := 13, ground := Ground.phase }, { on := 14, ground := Ground.phase }, { on := 15, ground := Ground.phase }, { on := 16, ground := Ground.phase }, { on := 17, ground := Ground.phase }, { on := 18, ground := Ground.phase }, { on := 19, ground := Ground.phase }, { on := 20, ground := Ground.phase }, { on := 21, ground := Ground.phase }, { on := 22, ground := Ground.phase }], guard := none }) (clo_app _ _ _ _ _ _ _) rfl rfl rfl (by kernel_rfl) (by kernel_rfl) (by kernel_rfl) (by kernel_rfl) (by kernel_rfl) (fun _ _ _ h => h) (YG.val (by rfl) (fun _ _ => rfl)) ?_
                  simp only [Act.put, List.setIfInBounds_toArray, List.set_cons_zero, List.set_cons_succ]
                  refine wpX_take 9 (v := .int .i64 ((N : Int) + (i : Int))) (oi := { dst := some 95, op := Op.binOp BinOp.add 3 (Operand.tmp 93) (Operand.tmp 94) 3, type := 3, pos := "nested.go:89", after := #[{ on := 7, ground := Ground.data }, { on := 8, ground := Ground.data }], guard := none }) (oL := { dst := some 10, op := Op.assign (Operand.tmp 108), type := 24, pos := "nested.go:89", after := #[{ on := 22, ground := Ground.data }, { on := 22, ground := Ground.chain }, { on := 0, ground := Ground.phase }, { on := 1, ground := Ground.phase }, { on := 2, ground := Ground.phase }, { on := 3, ground := Ground.phase }, { on := 4, ground := Ground.phase }, { on := 5, ground := Ground.phase }, { on := 6, ground := Ground.phase }, { on := 7, ground := Ground.phase }, { on := 8, ground := Ground.phase }, { on := 9, ground := Ground.phase }, { on := 10, ground := Ground.phase }, { on := 11, ground := Ground.phase }, { on := 12, ground := Ground.phase }, { on := 13, ground := Ground.phase }, { on := 14, ground := Ground.phase }, { on := 15, ground := Ground.phase }, { on := 16, ground := Ground.phase }, { on := 17, ground := Ground.phase }, { on := 18, ground := Ground.phase }, { on := 19, ground := Ground.phase }, { on := 20, ground := Ground.phase }, { on := 21, ground := Ground.phase }, { on := 22, ground := Ground.phase }], guard := none }) (clo_app _ _ _ _ _ _ _) rfl rfl rfl (by kernel_rfl) (by kernel_rfl) (by kernel_rfl) (by kernel_rfl) (by kernel_rfl) (fun _ _ _ h => h) (YG.val (by rfl) (fun _ _ => by go_simp)) ?_
                  simp only [Act.put, List.setIfInBounds_toArray, List.set_cons_zero, List.set_cons_succ]
                  refine wpX_take 10 (v := .int .u8 x2) (oi := { dst := some 96, op := Op.convert 3 5 (Operand.tmp 95), type := 5, pos := "nested.go:89", after := #[{ on := 9, ground := Ground.data }], guard := none }) (oL := { dst := some 10, op := Op.assign (Operand.tmp 108), type := 24, pos := "nested.go:89", after := #[{ on := 22, ground := Ground.data }, { on := 22, ground := Ground.chain }, { on := 0, ground := Ground.phase }, { on := 1, ground := Ground.phase }, { on := 2, ground := Ground.phase }, { on := 3, ground := Ground.phase }, { on := 4, ground := Ground.phase }, { on := 5, ground := Ground.phase }, { on := 6, ground := Ground.phase }, { on := 7, ground := Ground.phase }, { on := 8, ground := Ground.phase }, { on := 9, ground := Ground.phase }, { on := 10, ground := Ground.phase }, { on := 11, ground := Ground.phase }, { on := 12, ground := Ground.phase }, { on := 13, ground := Ground.phase }, { on := 14, ground := Ground.phase }, { on := 15, ground := Ground.phase }, { on := 16, ground := Ground.phase }, { on := 17, ground := Ground.phase }, { on := 18, ground := Ground.phase }, { on := 19, ground := Ground.phase }, { on := 20, ground := Ground.phase }, { on := 21, ground := Ground.phase }, { on := 22, ground := Ground.phase }], guard := none }) (clo_app _ _ _ _ _ _ _) rfl rfl rfl (by kernel_rfl) (by kernel_rfl) (by kernel_rfl) (by kernel_rfl) (by kernel_rfl) (fun _ _ _ h => h) (YG.val (by rfl) (fun _ _ => by go_simp)) ?_
                  simp only [Act.put, List.setIfInBounds_toArray, List.set_cons_zero, List.set_cons_succ]
                  refine wpX_take 11 (v := .slice (some ⟨gl, 0, none⟩) O.length cls) (oi := { dst := some 97, op := Op.move (Operand.tmp 0), type := 32, pos := "nested.go:89", after := #[], guard := none }) (oL := { dst := some 10, op := Op.assign (Operand.tmp 108), type := 24, pos := "nested.go:89", after := #[{ on := 22, ground := Ground.data }, { on := 22, ground := Ground.chain }, { on := 0, ground := Ground.phase }, { on := 1, ground := Ground.phase }, { on := 2, ground := Ground.phase }, { on := 3, ground := Ground.phase }, { on := 4, ground := Ground.phase }, { on := 5, ground := Ground.phase }, { on := 6, ground := Ground.phase }, { on := 7, ground := Ground.phase }, { on := 8, ground := Ground.phase }, { on := 9, ground := Ground.phase }, { on := 10, ground := Ground.phase }, { on := 11, ground := Ground.phase }, { on := 12, ground := Ground.phase }, { on := 13, ground := Ground.phase }, { on := 14, ground := Ground.phase }, { on := 15, ground := Ground.phase }, { on := 16, ground := Ground.phase }, { on := 17, ground := Ground.phase }, { on := 18, ground := Ground.phase }, { on := 19, ground := Ground.phase }, { on := 20, ground := Ground.phase }, { on := 21, ground := Ground.phase }, { on := 22, ground := Ground.phase }], guard := none }) (clo_app _ _ _ _ _ _ _) rfl rfl rfl (by kernel_rfl) (by kernel_rfl) (by kernel_rfl) (by kernel_rfl) (by kernel_rfl) (fun _ _ _ h => h) (YG.val (by rfl) (fun _ _ => rfl)) ?_
                  simp only [Act.put, List.setIfInBounds_toArray, List.set_cons_zero, List.set_cons_succ]
                  refine wpX_take 12 (v := .int .i64 (k : Int)) (oi := { dst := some 98, op := Op.move (Operand.tmp 9), type := 3, pos := "nested.go:89", after := #[], guard := none }) (oL := { dst := some 10, op := Op.assign (Operand.tmp 108), type := 24, pos := "nested.go:89", after := #[{ on := 22, ground := Ground.data }, { on := 22, ground := Ground.chain }, { on := 0, ground := Ground.phase }, { on := 1, ground := Ground.phase }, { on := 2, ground := Ground.phase }, { on := 3, ground := Ground.phase }, { on := 4, ground := Ground.phase }, { on := 5, ground := Ground.phase }, { on := 6, ground := Ground.phase }, { on := 7, ground := Ground.phase }, { on := 8, ground := Ground.phase }, { on := 9, ground := Ground.phase }, { on := 10, ground := Ground.phase }, { on := 11, ground := Ground.phase }, { on := 12, ground := Ground.phase }, { on := 13, ground := Ground.phase }, { on := 14, ground := Ground.phase }, { on := 15, ground := Ground.phase }, { on := 16, ground := Ground.phase }, { on := 17, ground := Ground.phase }, { on := 18, ground := Ground.phase }, { on := 19, ground := Ground.phase }, { on := 20, ground := Ground.phase }, { on := 21, ground := Ground.phase }, { on := 22, ground := Ground.phase }], guard := none }) (clo_app _ _ _ _ _ _ _) rfl rfl rfl (by kernel_rfl) (by kernel_rfl) (by kernel_rfl) (by kernel_rfl) (by kernel_rfl) (fun _ _ _ h => h) (YG.val (by rfl) (fun _ _ => rfl)) ?_
                  simp only [Act.put, List.setIfInBounds_toArray, List.set_cons_zero, List.set_cons_succ]
                  refine wpX_take 13 (v := .pointer (some ⟨gl, k, none⟩)) (oi := { dst := some 99, op := Op.indexAddr 32 (Operand.tmp 97) (Operand.tmp 98), type := 0, pos := "nested.go:89", after := #[{ on := 11, ground := Ground.data }, { on := 12, ground := Ground.data }], guard := none }) (oL := { dst := some 10, op := Op.assign (Operand.tmp 108), type := 24, pos := "nested.go:89", after := #[{ on := 22, ground := Ground.data }, { on := 22, ground := Ground.chain }, { on := 0, ground := Ground.phase }, { on := 1, ground := Ground.phase }, { on := 2, ground := Ground.phase }, { on := 3, ground := Ground.phase }, { on := 4, ground := Ground.phase }, { on := 5, ground := Ground.phase }, { on := 6, ground := Ground.phase }, { on := 7, ground := Ground.phase }, { on := 8, ground := Ground.phase }, { on := 9, ground := Ground.phase }, { on := 10, ground := Ground.phase }, { on := 11, ground := Ground.phase }, { on := 12, ground := Ground.phase }, { on := 13, ground := Ground.phase }, { on := 14, ground := Ground.phase }, { on := 15, ground := Ground.phase }, { on := 16, ground := Ground.phase }, { on := 17, ground := Ground.phase }, { on := 18, ground := Ground.phase }, { on := 19, ground := Ground.phase }, { on := 20, ground := Ground.phase }, { on := 21, ground := Ground.phase }, { on := 22, ground := Ground.phase }], guard := none }) (clo_app _ _ _ _ _ _ _) rfl rfl rfl (by kernel_rfl) (by kernel_rfl) (by kernel_rfl) (by kernel_rfl) (by kernel_rfl) (fun _ _ _ h => h) (YG.val (by rfl) (fun _ _ => by go_simp)) ?_
                  simp only [Act.put, List.setIfInBounds_toArray, List.set_cons_zero, List.set_cons_succ]
                  refine wpX_take 14 (v := .slice (O[k]).a N (O[k]).c) (oi := { dst := some 100, op := Op.load 24 (Operand.tmp 99), type := 24, pos := "nested.go:89", after := #[{ on := 13, ground := Ground.data }], guard := none }) (oL := { dst := some 10, op := Op.assign (Operand.tmp 108), type := 24, pos := "nested.go:89", after := #[{ on := 22, ground := Ground.data }, { on := 22, ground := Ground.chain }, { on := 0, ground := Ground.phase }, { on := 1, ground := Ground.phase }, { on := 2, ground := Ground.phase }, { on := 3, ground := Ground.phase }, { on := 4, ground := Ground.phase }, { on := 5, ground := Ground.phase }, { on := 6, ground := Ground.phase }, { on := 7, ground := Ground.phase }, { on := 8, ground := Ground.phase }, { on := 9, ground := Ground.phase }, { on := 10, ground := Ground.phase }, { on := 11, ground := Ground.phase }, { on := 12, ground := Ground.phase }, { on := 13, ground := Ground.phase }, { on := 14, ground := Ground.phase }, { on := 15, ground := Ground.phase }, { on := 16, ground := Ground.phase }, { on := 17, ground := Ground.phase }, { on := 18, ground := Ground.phase }, { on := 19, ground := Ground.phase }, { on := 20, ground := Ground.phase }, { on := 21, ground := Ground.phase }, { on := 22, ground := Ground.phase }], guard := none }) (clo_app _ _ _ _ _ _ _) rfl rfl rfl (by kernel_rfl) (by kernel_rfl) (by kernel_rfl) (by kernel_rfl) (by kernel_rfl) (fun _ _ _ h => h) (YG.val (by rfl) (fun u hu => by have hc1 := HC1.out u hu.1; go_simp)) ?_
                  simp only [Act.put, List.setIfInBounds_toArray, List.set_cons_zero, List.set_cons_succ]
                  refine wpX_take 15 (v := .int .i64 (N : Int)) (oi := { dst := some 101, op := Op.call { callee := Callee.builtin Builtin.len, args := #[Operand.tmp 100], argTypes := #[24] }, type := 3, pos := "nested.go:89", after := #[{ on := 14, ground := Ground.data }], guard := none }) (oL := { dst := some 10, op := Op.assign (Operand.tmp 108), type := 24, pos := "nested.go:89", after := #[{ on := 22, ground := Ground.data }, { on := 22, ground := Ground.chain }, { on := 0, ground := Ground.phase }, { on := 1, ground := Ground.phase }, { on := 2, ground := Ground.phase }, { on := 3, ground := Ground.phase }, { on := 4, ground := Ground.phase }, { on := 5, ground := Ground.phase }, { on := 6, ground := Ground.phase }, { on := 7, ground := Ground.phase }, { on := 8, ground := Ground.phase }, { on := 9, ground := Ground.phase }, { on := 10, ground := Ground.phase }, { on := 11, ground := Ground.phase }, { on := 12, ground := Ground.phase }, { on := 13, ground := Ground.phase }, { on := 14, ground := Ground.phase }, { on := 15, ground := Ground.phase }, { on := 16, ground := Ground.phase }, { on := 17, ground := Ground.phase }, { on := 18, ground := Ground.phase }, { on := 19, ground := Ground.phase }, { on := 20, ground := Ground.phase }, { on := 21, ground := Ground.phase }, { on := 22, ground := Ground.phase }], guard := none }) (clo_app _ _ _ _ _ _ _) rfl rfl rfl (by kernel_rfl) (by kernel_rfl) (by kernel_rfl) (by kernel_rfl) (by kernel_rfl) (fun _ _ _ h => h) (YG.val (by rfl) (fun _ _ => by go_simp)) ?_
                  simp only [Act.put, List.setIfInBounds_toArray, List.set_cons_zero, List.set_cons_succ]
                  refine wpX_take 16 (v := .int .i64 (i : Int)) (oi := { dst := some 102, op := Op.move (Operand.tmp 11), type := 3, pos := "nested.go:89", after := #[], guard := none }) (oL := { dst := some 10, op := Op.assign (Operand.tmp 108), type := 24, pos := "nested.go:89", after := #[{ on := 22, ground := Ground.data }, { on := 22, ground := Ground.chain }, { on := 0, ground := Ground.phase }, { on := 1, ground := Ground.phase }, { on := 2, ground := Ground.phase }, { on := 3, ground := Ground.phase }, { on := 4, ground := Ground.phase }, { on := 5, ground := Ground.phase }, { on := 6, ground := Ground.phase }, { on := 7, ground := Ground.phase }, { on := 8, ground := Ground.phase }, { on := 9, ground := Ground.phase }, { on := 10, ground := Ground.phase }, { on := 11, ground := Ground.phase }, { on := 12, ground := Ground.phase }, { on := 13, ground := Ground.phase }, { on := 14, ground := Ground.phase }, { on := 15, ground := Ground.phase }, { on := 16, ground := Ground.phase }, { on := 17, ground := Ground.phase }, { on := 18, ground := Ground.phase }, { on := 19, ground := Ground.phase }, { on := 20, ground := Ground.phase }, { on := 21, ground := Ground.phase }, { on := 22, ground := Ground.phase }], guard := none }) (clo_app _ _ _ _ _ _ _) rfl rfl rfl (by kernel_rfl) (by kernel_rfl) (by kernel_rfl) (by kernel_rfl) (by kernel_rfl) (fun _ _ _ h => h) (YG.val (by rfl) (fun _ _ => rfl)) ?_
                  simp only [Act.put, List.setIfInBounds_toArray, List.set_cons_zero, List.set_cons_succ]
                  refine wpX_take 17 (v := .int .i64 ((N : Int) + (i : Int))) (oi := { dst := some 103, op := Op.binOp BinOp.add 3 (Operand.tmp 101) (Operand.tmp 102) 3, type := 3, pos := "nested.go:89", after := #[{ on := 15, ground := Ground.data }, { on := 16, ground := Ground.data }], guard := none }) (oL := { dst := some 10, op := Op.assign (Operand.tmp 108), type := 24, pos := "nested.go:89", after := #[{ on := 22, ground := Ground.data }, { on := 22, ground := Ground.chain }, { on := 0, ground := Ground.phase }, { on := 1, ground := Ground.phase }, { on := 2, ground := Ground.phase }, { on := 3, ground := Ground.phase }, { on := 4, ground := Ground.phase }, { on := 5, ground := Ground.phase }, { on := 6, ground := Ground.phase }, { on := 7, ground := Ground.phase }, { on := 8, ground := Ground.phase }, { on := 9, ground := Ground.phase }, { on := 10, ground := Ground.phase }, { on := 11, ground := Ground.phase }, { on := 12, ground := Ground.phase }, { on := 13, ground := Ground.phase }, { on := 14, ground := Ground.phase }, { on := 15, ground := Ground.phase }, { on := 16, ground := Ground.phase }, { on := 17, ground := Ground.phase }, { on := 18, ground := Ground.phase }, { on := 19, ground := Ground.phase }, { on := 20, ground := Ground.phase }, { on := 21, ground := Ground.phase }, { on := 22, ground := Ground.phase }], guard := none }) (clo_app _ _ _ _ _ _ _) rfl rfl rfl (by kernel_rfl) (by kernel_rfl) (by kernel_rfl) (by kernel_rfl) (by kernel_rfl) (fun _ _ _ h => h) (YG.val (by rfl) (fun _ _ => by go_simp)) ?_
                  simp only [Act.put, List.setIfInBounds_toArray, List.set_cons_zero, List.set_cons_succ]
                  refine wpX_take 18 (v := .int .i64 q) (oi := { dst := some 104, op := Op.binOp BinOp.quo 3 (Operand.tmp 103) (Operand.const (Value.int IntKind.i64 256)) 3, type := 3, pos := "nested.go:89", after := #[{ on := 17, ground := Ground.data }], guard := none }) (oL := { dst := some 10, op := Op.assign (Operand.tmp 108), type := 24, pos := "nested.go:89", after := #[{ on := 22, ground := Ground.data }, { on := 22, ground := Ground.chain }, { on := 0, ground := Ground.phase }, { on := 1, ground := Ground.phase }, { on := 2, ground := Ground.phase }, { on := 3, ground := Ground.phase }, { on := 4, ground := Ground.phase }, { on := 5, ground := Ground.phase }, { on := 6, ground := Ground.phase }, { on := 7, ground := Ground.phase }, { on := 8, ground := Ground.phase }, { on := 9, ground := Ground.phase }, { on := 10, ground := Ground.phase }, { on := 11, ground := Ground.phase }, { on := 12, ground := Ground.phase }, { on := 13, ground := Ground.phase }, { on := 14, ground := Ground.phase }, { on := 15, ground := Ground.phase }, { on := 16, ground := Ground.phase }, { on := 17, ground := Ground.phase }, { on := 18, ground := Ground.phase }, { on := 19, ground := Ground.phase }, { on := 20, ground := Ground.phase }, { on := 21, ground := Ground.phase }, { on := 22, ground := Ground.phase }], guard := none }) (clo_app _ _ _ _ _ _ _) rfl rfl rfl (by kernel_rfl) (by kernel_rfl) (by kernel_rfl) (by kernel_rfl) (by kernel_rfl) (fun _ _ _ h => h) (YG.val (by rfl) (fun _ _ => by go_simp)) ?_
                  simp only [Act.put, List.setIfInBounds_toArray, List.set_cons_zero, List.set_cons_succ]
                  refine wpX_take 19 (v := .int .u8 x3) (oi := { dst := some 105, op := Op.convert 3 5 (Operand.tmp 104), type := 5, pos := "nested.go:89", after := #[{ on := 18, ground := Ground.data }], guard := none }) (oL := { dst := some 10, op := Op.assign (Operand.tmp 108), type := 24, pos := "nested.go:89", after := #[{ on := 22, ground := Ground.data }, { on := 22, ground := Ground.chain }, { on := 0, ground := Ground.phase }, { on := 1, ground := Ground.phase }, { on := 2, ground := Ground.phase }, { on := 3, ground := Ground.phase }, { on := 4, ground := Ground.phase }, { on := 5, ground := Ground.phase }, { on := 6, ground := Ground.phase }, { on := 7, ground := Ground.phase }, { on := 8, ground := Ground.phase }, { on := 9, ground := Ground.phase }, { on := 10, ground := Ground.phase }, { on := 11, ground := Ground.phase }, { on := 12, ground := Ground.phase }, { on := 13, ground := Ground.phase }, { on := 14, ground := Ground.phase }, { on := 15, ground := Ground.phase }, { on := 16, ground := Ground.phase }, { on := 17, ground := Ground.phase }, { on := 18, ground := Ground.phase }, { on := 19, ground := Ground.phase }, { on := 20, ground := Ground.phase }, { on := 21, ground := Ground.phase }, { on := 22, ground := Ground.phase }], guard := none }) (clo_app _ _ _ _ _ _ _) rfl rfl rfl (by kernel_rfl) (by kernel_rfl) (by kernel_rfl) (by kernel_rfl) (by kernel_rfl) (fun _ _ _ h => h) (YG.val (by rfl) (fun _ _ => by go_simp)) ?_
                  simp only [Act.put, List.setIfInBounds_toArray, List.set_cons_zero, List.set_cons_succ]
                  refine wpX_step 20 (o := { dst := some 106, op := Op.buildSlice 22 3 #[(0, Operand.tmp 88), (1, Operand.tmp 96), (2, Operand.tmp 105)], type := 22, pos := "nested.go:89", after := #[{ on := 2, ground := Ground.data }, { on := 10, ground := Ground.data }, { on := 19, ground := Ground.data }], guard := none }) rfl rfl (by kernel_rfl) (by rfl) (fun u1 hS1 K hK => ?_)
                  have HK := Lib.hid hK
                  have HS1 := Lib.hid hS1
                  clear hK hS1
                  have ha1 := World.grownBy_alloc u1 (.cells #[.int .u8 x1, .int .u8 x2, .int .u8 x3] 5) none
                  refine wp_val_op (v := .slice (some ⟨u1.heap.size, 0, none⟩) 3 3) (w1 := u1.alloc (.cells #[.int .u8 x1, .int .u8 x2, .int .u8 x3] 5)) (by go_simp) ?_
                  have hrw1 : Row (u1.alloc (.cells #[.int .u8 x1, .int .u8 x2, .int .u8 x3] 5)) u1.heap.size 5 #[.int .u8 x1, .int .u8 x2, .int .u8 x3] := heap_alloc_new u1 _
                  have hu1 : wr.heap.size ≤ u1.heap.size := HS1.out.1.size
                  obtain ⟨b1, hb1⟩ : ∃ b1, b1 = u1.heap.size := ⟨_, rfl⟩
                  have hS1' := clo_app wr base 22 a (N + i) c ys _ _ HS1.out ha1
                  rw [← hb1] at hrw1 hu1 ⊢
                  refine HK.out (fun u => AppS wr base 22 a (N + i) c ys u ∧ Row u b1 5 #[.int .u8 x1, .int .u8 x2, .int .u8 x3]) _ _ ⟨hS1', hrw1⟩ (fun u h => h.1) (clo_and (clo_app _ _ _ _ _ _ _) (clo_row _ _ _)) ?_
                  simp only [Act.put, List.setIfInBounds_toArray, List.set_cons_zero, List.set_cons_succ]
                  clear ha1 hrw1 hS1' HS1 HK hb1
                  refine wpX_step 21 (o := { dst := some 107, op := Op.buildSlice 24 1 #[(0, Operand.tmp 106)], type := 24, pos := "nested.go:89", after := #[{ on := 20, ground := Ground.data }], guard := none }) rfl rfl (by kernel_rfl) (by rfl) (fun u2 hS2 K hK => ?_)
                  have HK := Lib.hid hK
                  have HS2 := Lib.hid hS2
                  clear hK hS2
                  have ha2 := World.grownBy_alloc u2 (.cells #[.slice (some ⟨b1, 0, none⟩) 3 3] 22) none
                  refine wp_val_op (v := .slice (some ⟨u2.heap.size, 0, none⟩) 1 1) (w1 := u2.alloc (.cells #[.slice (some ⟨b1, 0, none⟩) 3 3] 22)) (by go_simp) ?_
                  have hrw2 : Row (u2.alloc (.cells #[.slice (some ⟨b1, 0, none⟩) 3 3] 22)) u2.heap.size 22 #[.slice (some ⟨b1, 0, none⟩) 3 3] := heap_alloc_new u2 _
                  have hu2 : wr.heap.size ≤ u2.heap.size := HS2.out.1.1.size
                  have hu12 : b1 < u2.heap.size := HS2.out.2.lt
                  obtain ⟨b2, hb2⟩ : ∃ b2, b2 = u2.heap.size := ⟨_, rfl⟩
                  have hS2' := clo_app wr base 22 a (N + i) c ys _ _ HS2.out.1 ha2
                  have hR2' := HS2.out.2.grown ha2
                  rw [← hb2] at hrw2 hu2 hu12 ⊢
                  refine HK.out (fun u => (AppS wr base 22 a (N + i) c ys u ∧ Row u b1 5 #[.int .u8 x1, .int .u8 x2, .int .u8 x3]) ∧ Row u b2 22 #[.slice (some ⟨b1, 0, none⟩) 3 3]) _ _ ⟨⟨hS2', hR2'⟩, hrw2⟩ (fun u h => h.1) (clo_and (clo_and (clo_app _ _ _ _ _ _ _) (clo_row _ _ _)) (clo_row _ _ _)) ?_
                  simp only [Act.put, List.setIfInBounds_toArray, List.set_cons_zero, List.set_cons_succ]
                  clear ha2 hrw2 hS2' hR2' HS2 HK hb2
                  refine wpX_step 22 (o := { dst := some 108, op := Op.call { callee := Callee.builtin Builtin.append, args := #[Operand.tmp 86, Operand.tmp 107], argTypes := #[24, 24] }, type := 24, pos := "nested.go:89", after := #[{ on := 0, ground := Ground.data }, { on := 21, ground := Ground.data }], guard := none }) rfl rfl (by kernel_rfl) (by rfl) (fun u3 hS3 K3 hK3 => ?_)
                  have HK3 := Lib.hid hK3
                  have HS3 := Lib.hid hS3
                  clear hK3 hS3
                  have hnews : ∀ j u, ([.slice (some ⟨b1, 0, none⟩) 3 3] : List Value)[j]? = some u → u3.cell? ((⟨b2, 0, none⟩ : Addr).add j) = some u := by
                    intro j u hu
                    have h2 : ((⟨b2, 0, none⟩ : Addr).add j) = ⟨b2, j, none⟩ := by unfold Addr.add; split <;> simp_all
                    rw [h2, Row.cell HS3.out.2]
                    simpa using hu
                  have hzb : base ≤ u3.heap.size := by
                    have h2 := HS3.out.1.1.1.size
                    have h3 := HSZ.out
                    omega
                  have hin : ∀ g, In a c g → g < wr.heap.size := fun g h => (Own.inn HIN.out.row h).2
                  obtain ⟨gF, cF2, w8, hrun, hown8, hgr8⟩ := run_app (P := Try.prog) (ty := 24) u3 elS HS3.out.1.1.2 ⟨b2, 0, none⟩ 1 1 [.slice (some ⟨b1, 0, none⟩) 3 3] rfl hnews (by simp [Value.oneCell']) (by unfold maxLen; omega) (by omega) hzb (fun _ _ _ => trivial) (by omega)
                  refine wp_val_op (v := .slice (some ⟨gF, 0, none⟩) (N + i + 1) cF2) (w1 := w8) (run_app_op u3 w8 _ (.tmp 86) (.tmp 107) rfl _ hrun) ?_
                  refine HK3.out (fun u => ((AppS wr base 22 a (N + i) c ys u ∧ Row u b1 5 #[.int .u8 x1, .int .u8 x2, .int .u8 x3]) ∧ Row u b2 22 #[.slice (some ⟨b1, 0, none⟩) 3 3]) ∧ w8.grownBy u none) _ _ ⟨⟨⟨⟨HS3.out.1.1.1.trans hgr8.ch (fun _ _ h => h), own_behind HS3.out.1.1.2 hown8 hgr8⟩, Row.ch HS3.out.1.2 hgr8.ch (fun h => by have := hin _ h; omega)⟩, Row.ch HS3.out.2 hgr8.ch (fun h => by have := hin _ h; omega)⟩, World.grownBy.refl _ _⟩ (fun u h => h.1) (clo_and (clo_and (clo_and (clo_app _ _ _ _ _ _ _) (clo_row _ _ _)) (clo_row _ _ _)) (clo_grown _)) ?_
                  simp only [Act.put, List.setIfInBounds_toArray, List.set_cons_zero, List.set_cons_succ]
                  refine wpX_last (oL := { dst := some 10, op := Op.assign (Operand.tmp 108), type := 24, pos := "nested.go:89", after := #[{ on := 22, ground := Ground.data }, { on := 22, ground := Ground.chain }, { on := 0, ground := Ground.phase }, { on := 1, ground := Ground.phase }, { on := 2, ground := Ground.phase }, { on := 3, ground := Ground.phase }, { on := 4, ground := Ground.phase }, { on := 5, ground := Ground.phase }, { on := 6, ground := Ground.phase }, { on := 7, ground := Ground.phase }, { on := 8, ground := Ground.phase }, { on := 9, ground := Ground.phase }, { on := 10, ground := Ground.phase }, { on := 11, ground := Ground.phase }, { on := 12, ground := Ground.phase }, { on := 13, ground := Ground.phase }, { on := 14, ground := Ground.phase }, { on := 15, ground := Ground.phase }, { on := 16, ground := Ground.phase }, { on := 17, ground := Ground.phase }, { on := 18, ground := Ground.phase }, { on := 19, ground := Ground.phase }, { on := 20, ground := Ground.phase }, { on := 21, ground := Ground.phase }, { on := 22, ground := Ground.phase }], guard := none }) rfl (by kernel_rfl) (by kernel_rfl) (by rfl) (fun u4 hS4 K4 hK4 => ?_)
                  refine wp_val_op (v := .slice (some ⟨gF, 0, none⟩) (N + i + 1) cF2) (w1 := u4) (by rfl) (hK4 _ _ ?_)
                  simp only [Act.put, List.setIfInBounds_toArray, List.set_cons_zero, List.set_cons_succ]
                  have hbrow : BRow u3 b1 5 (mk3 k (N + i)) := by unfold BRow; rw [HRB.out]; exact HS3.out.1.2
                  have hOR := HOR.out
                  have hs3 := HS3.out.1.1
                  have hl3 : LIn2 base O k hlt wo i a c ys u3 := HIN.out.stay hs3.1 (by rw [← HNN.out]; exact hs3.2)
                  have hl8 := hl3.next (v := .slice (some ⟨b1, 0, none⟩) 3 3) (by rw [← HNN.out]; exact ⟨_, rfl, hbrow⟩) (by rw [← HNN.out]; exact hown8) hgr8
                  have HL4 := Lib.hid (hl8.grown hS4.2)
                  clear hbrow hOR hs3 hl3 hl8 hS4 HS3 HK3 hgr8 hown8 hrun hin hzb hnews hK4
                  go_wp2_with fail
                  go_roundw
                  case rel => exact ⟨i + 1, _, _, _, by omega, by go_num, by rw [HNN.out]; rfl, HL4.out⟩
                  case measure => simp [intOf]; omega
                · obtain rfl : i = 70 := by omega
                  have hgs := HST.out.gsIn hlt HIN.out.frame
                  have hszB : wk.heap.size ≤ wr.heap.size := Nat.le_trans HST.out.size HIN.out.frame.size
                  go_wp2_with (at_builtin; refine wpList_push elL rfl (.tmp 109) (.tmp 111) rfl rfl hgs (.slice a ((O[k]).n + 70) c) rfl rfl (by unfold maxLen; omega) (by omega) hszB ?_; intro g cap w1 hown1 hgr)
                  go_roundw
                  case rel => exact ⟨k + 1, _, _, _, by omega, by go_num, rfl, HST.out.next hlt HD.out HIN.out hown1 hgr⟩
                  case measure => simp [intOf]; omega
            · obtain rfl : k = O.length := by omega
              obtain ⟨w3, rfl⟩ : ∃ w3 : World, w3 = wr := ⟨_, rfl⟩
              go_wp2_with fail
              go_loopw [12] (fun vk wr => ∃ k : Nat, k ≤ O.length ∧ vk = .int .i64 k ∧ w3.grownBy wr none) (fun vk _ => O.length - (intOf vk).toNat)
              case atStart => exact ⟨0, by omega, rfl, World.grownBy.refl _ _⟩
              case round =>
                obtain ⟨k, hk, rfl, hg⟩ := hrel
                have HG := Lib.hid hg
                clear hg
                by_cases hlt : k < O.length
                · obtain ⟨gl, gg, h, c, rfl, rfl, c1, c2, c3, c4⟩ := HST.out.look k hlt
                  have cellg : ∀ (b i : Nat) (v : Value), w3.cell? ⟨b, i, none⟩ = some v → ∀ u, w3.grownBy u none → u.cell? ⟨b, i, none⟩ = some v := fun b i v h u hu => (World.cell?_of_block (hu.block b (World.block_lt_of_cell? _ _ h) (by simp))).trans h
                  have HC1 := Lib.hid (cellg _ _ _ c1)
                  have HC2 := Lib.hid (cellg _ _ _ c2)
                  have HC3 := Lib.hid c3
                  have HC4 := Lib.hid c4
                  have HCG := Lib.hid cellg
                  have hnb : (O[k]).n ≤ 10000000 := by
                    have h2 := (HI.out k hlt (by rw [HLL.out]; exact hlt))
                    have h3 : (Ls[k]'(by rw [HLL.out]; exact hlt)).length = (O[k]).n := SOwn.len h2
                    have h4 := flat_at Ls k (by rw [HLL.out]; exact hlt) (O[k]).n (by omega)
                    rw [List.length_append, List.length_take] at h4
                    have h5 := HM.out
                    omega
                  clear c1 c2 c3 c4 cellg
                  obtain ⟨N, hNN⟩ : ∃ N, N = (O[k]).n := ⟨_, rfl⟩
                  rw [← hNN] at hnb HC1 HC2 HC3 HC4
                  clear hNN
                  go_wp2_with fail
                  go_loopw [13] (fun vi wr => ∃ i : Nat, i ≤ N + 70 ∧ vi = .int .i64 i ∧ w3.grownBy wr none) (fun vi _ => N + 70 - (intOf vi).toNat)
                  case atStart => exact ⟨0, by omega, rfl, HG.out⟩
                  case round =>
                    obtain ⟨i, hi, rfl, hg⟩ := hrel
                    replace HG := Lib.hid hg
                    clear hg
                    have c2 := HC2.out _ HG.out
                    by_cases hlt2 : i < N + 70
                    · obtain ⟨b1, c3, r3⟩ := HC3.out i hlt2
                      have HR3 := Lib.hid r3
                      have HCC3 := Lib.hid (HCG.out _ _ _ c3)
                      clear r3 c3
                      obtain ⟨x1, hx1⟩ : ∃ x1 : Int, x1 = ((UInt8.ofNat k).toNat : Int) := ⟨_, rfl⟩
                      obtain ⟨x2, hx2⟩ : ∃ x2 : Int, x2 = ((UInt8.ofNat (i)).toNat : Int) := ⟨_, rfl⟩
                      obtain ⟨x3, hx3⟩ : ∃ x3 : Int, x3 = ((UInt8.ofNat ((i) / 256)).toNat : Int) := ⟨_, rfl⟩
                      obtain ⟨q, hq⟩ : ∃ q : Int, q = (((i) / 256 : Nat) : Int) := ⟨_, rfl⟩
                      have hw1 : IntKind.u8.wrap (k : Int) = x1 := by rw [hx1]; exact u8_ofNat _
                      have hw2 : IntKind.u8.wrap ((i : Int)) = x2 := by rw [hx2, ← u8_ofNat]
                      have hw3 : IntKind.u8.wrap q = x3 := by rw [hx3, hq]; exact u8_ofNat _
                      have hq1 : ((i : Int)).tdiv 256 = q := by rw [hq]; exact tdiv256 _ _ (by omega)
                      have hq2 : ((i : Int)) / 256 = q := by rw [hq]; omega
                      have hq3 : IntKind.i64.wrap q = q := IntWalk.i64_in _ (by omega)
                      have hrb : rowB (mk3 k (i)) = #[.int .u8 x1, .int .u8 x2, .int .u8 x3] := by rw [hx1, hx2, hx3]; rfl
                      clear hx1 hx2 hx3 hq
                      have hnew : BLies (wr.alloc (.cells #[.int .u8 x1, .int .u8 x2, .int .u8 x3] 5)) (some ⟨wr.heap.size, 0, none⟩) (mk3 k i) := BRow.lies (t := 5) (by unfold BRow; rw [hrb]; exact heap_alloc_new wr _)
                      have ha := grownBy_al HG.out (.cells #[.int .u8 x1, .int .u8 x2, .int .u8 x3] 5)
                      clear hrb
                      obtain ⟨w4, hw4⟩ : ∃ w4, w4 = wr.alloc (.cells #[.int .u8 x1, .int .u8 x2, .int .u8 x3] 5) := ⟨_, rfl⟩
                      have HW4 := Lib.hid hw4
                      rw [← hw4] at hnew ha
                      have HNEW := Lib.hid hnew
                      have HA := Lib.hid ha
                      clear hw4 hnew ha
                      go_upto_region 35 with fail
                      rw [← HW4.out]
                      obtain ⟨bw, hbw⟩ : ∃ bw, bw = wr.heap.size := ⟨_, rfl⟩
                      rw [← hbw] at HNEW ⊢
                      clear hbw c2 HW4
                      have c2 := HC2.out _ HA.out
                      have c3 := HCC3.out _ HA.out
                      by_cases hin : i < N
                      · obtain ⟨g, b2, ha2, c4, r4⟩ := HC4.out i hin
                        have HR4 := Lib.hid r4
                        have HCC4 := Lib.hid (HCG.out _ _ _ c4)
                        have hhd : decide ((i : Int) < (N : Int)) = true := by rw [decide_eq_true_iff]; omega
                        clear r4 c4
                        have HC1' := HC1.out
                        rw [ha2] at HC1'
                        have HC1 := Lib.hid HC1'
                        clear HC1' ha2
                        go_wp2_with fail
                        refine (same_yes _ _ 3 3 3 3 (mk3 k i) _ (BRow.lies (HR3.out.grown HA.out)) HNEW.out rfl rfl (by decide)).mono ?_
                        rintro e w5 ⟨rfl, q5, hq5⟩
                        have hg5 : w4.grownBy w5 none := by rw [hq5]; exact grownBy_drewN _ _ _
                        have HA5 := Lib.hid (grownBy_trans HA.out hg5)
                        have HN5 := Lib.hid (HNEW.out.grown hg5)
                        clear hq5 hg5 c2 c3
                        have c1 := HC1.out _ HA5.out
                        have c4 := HCC4.out _ HA5.out
                        go_wp2_with fail
                        refine (same_yes _ _ 3 3 3 3 (mk3 k i) _ (BRow.lies (HR4.out.grown HA5.out)) HN5.out rfl rfl (by decide)).mono ?_
                        rintro e w6 ⟨rfl, q6, hq6⟩
                        have HA6 := Lib.hid (show w3.grownBy w6 none by rw [hq6]; exact grownBy_trans HA5.out (grownBy_drewN _ _ _))
                        clear hq6 c1 c4
                        go_wp2_with fail
                        go_roundw
                        case rel => exact ⟨i + 1, by omega, by go_num, HA6.out⟩
                        case measure => simp [intOf]; omega
                      · have hhd : decide ((i : Int) < (N : Int)) = false := by rw [decide_eq_false_iff_not]; omega
                        go_wp2_with fail
                        refine (same_yes _ _ 3 3 3 3 (mk3 k i) _ (BRow.lies (HR3.out.grown HA.out)) HNEW.out rfl rfl (by decide)).mono ?_
                        rintro e w5 ⟨rfl, q5, hq5⟩
                        have hg5 : w4.grownBy w5 none := by rw [hq5]; exact grownBy_drewN _ _ _
                        have HA5 := Lib.hid (grownBy_trans HA.out hg5)
                        clear hq5 hg5 c2 c3
                        have c1 := HC1.out _ HA5.out
                        go_wp2_with fail
                        go_roundw
                        case rel => exact ⟨i + 1, by omega, by go_num, HA5.out⟩
                        case measure => simp [intOf]; omega
                    · obtain rfl : i = N + 70 := by omega
                      go_wp2_with fail
                      go_roundw
                      case rel => exact ⟨k + 1, by omega, by go_num, HG.out⟩
                      case measure => simp [intOf]; omega
                · obtain rfl : k = O.length := by omega
                  go_wp2_with fail
                  go_ret
                  exact ⟨rfl, HST.out.below.trans ((Below.refl base w3).grown HG.out (Nat.le_trans HST.out.baseB HST.out.size) (by simp))⟩

theorem apartLists_n (base : Nat) (als : Option Addr) (cls n : Nat) (O : List Sl) (Ls : List (List Sl)) (w : World) (ho : OOwn w base als n cls O) (hn : O.length = n) (hll : Ls.length = n)
    (hi : ∀ j (hj : j < O.length) (hj' : j < Ls.length), SOwn w base (O[j]).a (O[j]).n (O[j]).c Ls[j]) (hb : ∀ j (hj : j < Ls.flatten.length), ∃ l, BOwn w base (Ls.flatten[j]).a (Ls.flatten[j]).n (Ls.flatten[j]).c l)
    (hd : Distinct O) (hdf : Distinct Ls.flatten) (hbase : base ≤ w.heap.size) (hK : n ≤ 1000) (hM : Ls.flatten.length ≤ 10000000) (hN : ∀ j (hj : j < Ls.flatten.length), (Ls.flatten[j]).n ≤ 100000000) :
    Calls Try.prog 20 #[.slice als n cls] w fun e w' => e = .returned (.bool true) ∧ Below base w w' := by
  subst hn
  exact apartLists_any base als cls O Ls w ho hll hi hb hd hdf hbase hK hM hN
end Go.Proofs.Ytfboddnpkaiifaa
