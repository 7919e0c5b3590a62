/- Helpers and contracts of the proofs over this seat: ApartW, Apart2, SlOff. Each states what a function of the program answers, or is plain Lean; its conditions stand in each statement. -/
import Derived.Test.YtblgdfamomlklaaPtAA
import Derived.Test.YtblgdfamomlklaaPtAD
set_option linter.unusedVariables false
/- strongroomkit.ApartBytes. -/
namespace Go.Proofs.Ytblgdfamomlklaa
open Go.RowKit

set_option maxRecDepth 100000 in
set_option maxHeartbeats 1000000 in
theorem apart_any (base : Nat) (als : Option Addr) (cls : Nat) (L : List Sl) (w : World) (hs : St1 base als cls L w 0 0 w) (hb : base ≤ w.heap.size) (hd : Distinct L) (hK : L.length ≤ 100000000) (hN : ∀ j (hj : j < L.length), (L[j]).n ≤ 100000000) :
    Calls Try.prog 25 #[.slice als L.length cls] w fun e w' => e = .returned (.bool true) ∧ Below base w w' := by
  have HD : Hid (Distinct L) := hd
  have HN : Hid (∀ j (hj : j < L.length), (L[j]).n ≤ 100000000) := hN
  clear hd hN
  go_enter Try.func25, Try.ntmps25
  go_wp2_with fail
  go_loopw [3] (fun i wr => ∃ k : Nat, k ≤ L.length ∧ i = .int .i64 k ∧ St1 base als cls L w k 0 wr) (fun i _ => L.length - (intOf i).toNat)
  case atStart => exact ⟨0, by omega, rfl, hs⟩
  case round =>
    obtain ⟨k, hk, rfl, hst⟩ := hrel
    by_cases hlt : k < L.length
    · go_wp2_with fail
      obtain ⟨wo, rfl⟩ : ∃ wo : World, wo = wr := ⟨_, rfl⟩
      go_loopw [4] (fun i wr => ∃ j : Nat, j ≤ (L[k]).n ∧ i = .int .i64 j ∧ St1 base als cls L w k j wr) (fun i _ => (L[k]).n - (intOf i).toNat)
      case atStart => exact ⟨0, by omega, rfl, hst⟩
      case round =>
        obtain ⟨j, hj, rfl, hst⟩ := hrel
        have HST : Hid (St1 base als cls L w k j wr) := hst
        clear hst
        obtain ⟨gs, rfl, _, _, hcs, _⟩ := Own.cell HST.out.outer k (by simpa using hlt)
        have hcs' : wr.cell? ⟨gs, k, none⟩ = some (.slice (L[k]).a (L[k]).n (L[k]).c) := by rw [hcs]; simp [Sl.val]
        clear hcs
        have hn := HN.out k hlt
        by_cases hjt : j < (L[k]).n
        · obtain ⟨g, ha, ⟨u, hu⟩, hf, hst'⟩ := HST.out.store HD.out hlt hjt
          rw [ha] at hcs'
          have HA : Hid ((L[k]).a = some ⟨g, 0, none⟩) := ha
          clear ha
          go_wp2_with fail
          have hw1 : IntKind.i64.wrap ((k : Int) + 1) = (k : Int) + 1 := IntWalk.i64_in _ (by omega)
          refine wp_region_still_tail 10 (by kernel_rfl) (by kernel_rfl) ?_
          simp only [List.take_succ_cons, List.take_zero, List.drop_succ_cons, List.drop_zero]
          repeat still_step
          still_call ((mark_any _ _ _ (by omega) (by omega)).mono fun e w' ⟨he, hw⟩ => ⟨he, hw.symm⟩)
          repeat still_step
          refine wpStill_nil ?_
          change wpList _ _ _ _ _ wr.drew
          go_wp2
          go_roundw
          case rel => exact ⟨j + 1, by omega, by go_num, hst'.drew⟩
          case measure => simp [intOf]; omega
        · obtain rfl : j = (L[k]).n := by omega
          go_wp2_with fail
          go_roundw
          case rel => exact ⟨k + 1, by omega, by go_num, HST.out.next hlt rfl⟩
          case measure => simp [intOf]; omega
    · obtain rfl : k = L.length := by omega
      obtain ⟨wk, rfl⟩ : ∃ wk : World, wk = wr := ⟨_, rfl⟩
      have HS2 : Hid (St2 base als cls L w wk.heap.size 0 none 0 [] wk) := St2.start hst hb
      clear hst
      go_wp2_with fail
      go_loopw [5, 6] (fun v i wr => ∃ (k : Nat) (ags : Option Addr) (cgs : Nat) (G : List Sl), k ≤ L.length ∧ i = .int .i64 k ∧ v = .slice ags k cgs ∧ St2 base als cls L w wk.heap.size k ags cgs G wr) (fun _ i _ => L.length - (intOf i).toNat)
      case atStart => exact ⟨0, none, 0, [], by omega, rfl, rfl, HS2.out⟩
      case round =>
        obtain ⟨k, ags, cgs, G, hk, rfl, rfl, hst⟩ := hrel
        have HST : Hid (St2 base als cls L w wk.heap.size k ags cgs G wr) := hst
        clear hst
        by_cases hlt : k < L.length
        · obtain ⟨gs, e1, _, _, hcs, _⟩ := Own.cell HST.out.outer k (by simpa using hlt)
          have hcs' : wr.cell? ⟨gs, k, none⟩ = some (.slice (L[k]).a (L[k]).n (L[k]).c) := by rw [hcs]; simp [Sl.val]
          clear hcs
          obtain rfl := e1
          go_wp2_with fail
          obtain ⟨wo, rfl⟩ : ∃ wo : World, wo = wr := ⟨_, rfl⟩
          go_loopw [7, 8] (fun v i wr => ∃ (m : Nat) (a : Option Addr) (c : Nat), m ≤ 70 ∧ i = .int .i64 m ∧ v = .slice a ((L[k]).n + m) c ∧ In2 base L k hlt wo m a c wr) (fun _ i _ => 70 - (intOf i).toNat)
          case atStart => exact ⟨0, _, _, by omega, rfl, rfl, In2.start HST.out hlt⟩
          case round =>
            obtain ⟨m, a, c, hm, rfl, rfl, hin⟩ := hrel
            have HIN : Hid (In2 base L k hlt wo m a c wr) := hin
            clear hin
            obtain ⟨gs2, e1, _, _, hcs, _⟩ := Own.cell (HST.out.outerIn hlt HIN.out.frame) k (by simpa using hlt)
            obtain rfl : gs = gs2 := by simpa using e1
            clear e1
            have hcs2 : wr.cell? ⟨gs, k, none⟩ = some (.slice (L[k]).a (L[k]).n (L[k]).c) := by rw [hcs]; simp [Sl.val]
            clear hcs
            have hn := HN.out k hlt
            have hsz : base ≤ wr.heap.size := Nat.le_trans HST.out.baseB (Nat.le_trans HST.out.size HIN.out.frame.size)
            by_cases hm70 : m < 70
            · go_wp2_with (first | (go_at_call 40; refine (mark_any _ _ _ (by omega) (by omega)).mono ?_; rintro e w' ⟨rfl, rfl⟩) | (at_builtin; refine wpList_push elB rfl (.tmp 51) (.tmp 62) rfl rfl HIN.out.row (.int .u8 ((mrk ((k : Int) + 1) (((L[k]).n : Int) + (m : Int))).toNat : Int)) rfl rfl (by unfold maxLen; omega) (by omega) hsz ?_; intro g cap w1 hown1 hgr))
              go_roundw
              case rel => exact ⟨m + 1, _, _, by omega, by go_num, rfl, HIN.out.next hown1 hgr⟩
              case measure => simp [intOf]; omega
            · obtain rfl : m = 70 := by omega
              have hgs : SOwn wr wk.heap.size ags k cgs G := Own.grownNe HST.out.gs HIN.out.frame fun g1 hc1 ha1 hb1 => by
                obtain ⟨hc2, ha2⟩ := (HST.out.lists k hlt).blk hb1
                have h3 := HST.out.gs
                have h4 := HST.out.lists k hlt
                rw [ha1] at h3
                rw [ha2] at h4
                exact own_ne h3 h4 hc1 hc2 (by decide) rfl
              have hszB : wk.heap.size ≤ wr.heap.size := Nat.le_trans HST.out.size HIN.out.frame.size
              go_wp2_with (at_builtin; refine wpList_push elS rfl (.tmp 64) (.tmp 66) rfl rfl hgs (.slice a ((L[k]).n + 70) c) rfl rfl (by unfold maxLen; omega) (by omega) hszB ?_; intro g cap w1 hown1 hgr)
              go_roundw
              case rel => exact ⟨k + 1, _, _, _, by omega, by go_num, rfl, HST.out.next hlt HD.out HIN.out hown1 hgr⟩
              case measure => simp [intOf]; omega
        · obtain rfl : k = L.length := by omega
          obtain ⟨w3, rfl⟩ : ∃ w3 : World, w3 = wr := ⟨_, rfl⟩
          go_wp2_with fail
          go_loopw [9] (fun i wr => ∃ k n : Nat, k ≤ L.length ∧ i = .int .i64 k ∧ wr = w3.drewN n) (fun i _ => L.length - (intOf i).toNat)
          case atStart => exact ⟨0, 0, by omega, rfl, rfl⟩
          case round =>
            obtain ⟨k, n, hk, rfl, rfl⟩ := hrel
            by_cases hlt : k < L.length
            · obtain ⟨gl, gg, h, c, rfl, rfl, c1, c2, c3, c4⟩ := HST.out.look k hlt
              have C3 := Lib.hid c3
              have C4 := Lib.hid c4
              clear c3 c4
              have hn := HN.out k hlt
              go_wp2_with fail
              go_loopw [10] (fun i wr => ∃ j m : Nat, j ≤ (L[k]).n + 70 ∧ i = .int .i64 j ∧ wr = w3.drewN m) (fun i _ => (L[k]).n + 70 - (intOf i).toNat)
              case atStart => exact ⟨0, n, by omega, rfl, rfl⟩
              case round =>
                obtain ⟨j, m, hj, rfl, rfl⟩ := hrel
                by_cases hjt : j < (L[k]).n + 70
                · have c3 := C3.out j hjt
                  by_cases hjn : j < (L[k]).n
                  · obtain ⟨g, ha, c4⟩ := C4.out j hjn
                    rw [ha] at c1
                    have HA := Lib.hid ha
                    clear ha
                    go_wp2_with (go_at_call 40; refine (mark_any _ _ _ (by omega) (by omega)).mono ?_; rintro e w' ⟨rfl, rfl⟩)
                    go_roundw
                    case rel => exact ⟨j + 1, m, by omega, by go_num, rfl⟩
                    case measure => simp [intOf]; omega
                  · have hjd : decide ((j : Int) < ((L[k]).n : Int)) = false := by rw [decide_eq_false_iff_not]; omega
                    go_wp2_with (go_at_call 40; refine (mark_any _ _ _ (by omega) (by omega)).mono ?_; rintro e w' ⟨rfl, rfl⟩)
                    go_roundw
                    case rel => exact ⟨j + 1, m, by omega, by go_num, rfl⟩
                    case measure => simp [intOf]; omega
                · obtain rfl : j = (L[k]).n + 70 := by omega
                  go_wp2_with fail
                  go_roundw
                  case rel => exact ⟨k + 1, m, by omega, by go_num, rfl⟩
                  case measure => simp [intOf]; omega
            · obtain rfl : k = L.length := by omega
              go_wp2_with fail
              go_ret
              exact ⟨rfl, HST.out.below.trans ⟨rfl, rfl, rfl, Nat.le_refl _, fun _ _ => rfl⟩⟩

theorem apart_n (base : Nat) (als : Option Addr) (cls n : Nat) (L : List Sl) (w : World) (hs : St1 base als cls L w 0 0 w) (hb : base ≤ w.heap.size) (hd : Distinct L) (hn : L.length = n) (hK : n ≤ 100000000) (hN : ∀ j (hj : j < L.length), (L[j]).n ≤ 100000000) :
    Calls Try.prog 25 #[.slice als n cls] w fun e w' => e = .returned (.bool true) ∧ Below base w w' := by
  subst hn
  exact apart_any base als cls L w hs hb hd hK hN

end Go.Proofs.Ytblgdfamomlklaa
/- ApartBytes of a literal list of lists. No walk. -/
namespace Go.Proofs.Ytblgdfamomlklaa
open Go.RowKit

theorem own_lit (w : World) (e : TypeId) (xs : List Value) (n : Nat) (hn : xs.length = n) (hm : n ≤ maxLen) : Own (w.alloc (.cells xs.toArray e)) w.heap.size e 1 (some ⟨w.heap.size, 0, none⟩) n n xs := by
  subst hn
  exact ⟨by simp, .inr ⟨w.heap.size, _, rfl, Nat.le_refl _, heap_alloc_new w _, Nat.le_refl _, hm, by simp, by simp⟩⟩

/-- between which numbers a slice's block lies -/
def Sl.within (s : Sl) (lo hi : Nat) : Prop := ∀ g, s.blk = some g → lo ≤ g ∧ g < hi
theorem BOwn.within {w : World} {base : Nat} {a : Option Addr} {n c : Nat} {l : List UInt8} (h : BOwn w base a n c l) : (⟨a, n, c⟩ : Sl).within base w.heap.size := by
  intro g hg
  have h' : BOwn w base (⟨a, n, c⟩ : Sl).a (⟨a, n, c⟩ : Sl).n (⟨a, n, c⟩ : Sl).c l := h
  obtain ⟨hc, ha⟩ := h'.blk hg
  obtain ⟨g', e, h1, h2⟩ := Own.block h hc
  rw [show a = some ⟨g, 0, none⟩ from ha] at e
  injection e with e; injection e with e
  subst e
  exact ⟨h1, h2⟩

theorem distinct_of (L : List Sl) (b : Nat → Nat) (hb : ∀ i, i < L.length → b i ≤ b (i + 1)) (h : ∀ i (hi : i < L.length), (L[i]).within (b i) (b (i + 1))) : Distinct L := by
  have mono : ∀ i j, i ≤ j → j ≤ L.length → b i ≤ b j := by
    intro i j hij
    induction j with
    | zero => intro _; have : i = 0 := by omega
              subst this; exact Nat.le_refl _
    | succ j ih =>
      intro hj
      by_cases e : i = j + 1
      · subst e; exact Nat.le_refl _
      · exact Nat.le_trans (ih (by omega) (by omega)) (hb j (by omega))
  intro i j hi hj hne g hgi hgj
  have h1 := h i hi g hgi
  have h2 := h j hj g hgj
  rcases Nat.lt_or_gt_of_ne hne with hlt | hlt
  · have := mono (i + 1) j (by omega) (by omega); omega
  · have := mono (j + 1) i (by omega) (by omega); omega

theorem st1_lit {w : World} {base : Nat} {L : List Sl} (h : ∀ j (hj : j < L.length), ∃ l, BOwn w base (L[j]).a (L[j]).n (L[j]).c l) (hb : base ≤ w.heap.size) (n : Nat) (hn : L.length = n) (hm : n ≤ maxLen) :
    St1 base (some ⟨w.heap.size, 0, none⟩) n L (w.alloc (.cells (L.map Sl.val).toArray 34)) 0 0 (w.alloc (.cells (L.map Sl.val).toArray 34)) := by
  subst hn
  refine ⟨(own_lit w _ _ _ (by simp) hm).mono hb, fun j hj => ?_, Below.refl _ _⟩
  obtain ⟨l, ho⟩ := h j hj
  exact ⟨l, Own.grownNone ho (World.grownBy_alloc w _ none), fun h => absurd h (by omega), fun _ => by simp [mkl]⟩

theorem grown_below {w0 w w' : World} {base : Nat} (h : w0.grownBy w none) (hb : Below base w w') (hs : w0.heap.size ≤ base) : w0.grownBy w' none :=
  ⟨hb.os.trans h.os, hb.tape.trans h.tape, hb.output.trans h.output, Nat.le_trans h.size hb.size, fun k hk hr => (hb.block k (by omega)).trans (h.block k hk hr)⟩

end Go.Proofs.Ytblgdfamomlklaa
/- Windows that lie apart. -/
namespace Go.Proofs.Ytblgdfamomlklaa
open Go.RowKit
def Sl.off (s t : Sl) : Prop := ∀ g, s.blk = some g → t.blk ≠ some g
theorem Sl.off_win {s t : Sl} {a b c d : Nat} (h : s.within a b) (k : t.within c d) (hbc : b ≤ c) : s.off t := fun g h1 h2 => by
  have := h g h1
  have := k g h2
  omega
theorem distinct_pairs (L : List Sl) (h : L.Pairwise Sl.off) : Distinct L := by
  intro i j hi hj hne g h1 h2
  rw [List.pairwise_iff_getElem] at h
  rcases Nat.lt_or_gt_of_ne hne with hlt | hlt
  · exact h i j hi hj hlt g h1 h2
  · exact h j i hj hi hlt g h2 h1

end Go.Proofs.Ytblgdfamomlklaa
