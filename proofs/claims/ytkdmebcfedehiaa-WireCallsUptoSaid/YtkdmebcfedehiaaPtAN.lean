/- Helpers and contracts of the proofs over this seat: WireCallsL, OpsRd. Each states what a function of the program answers, or is plain Lean; its conditions stand in each statement. -/
import Derived.Deep.Slices
import Derived.Test.YtkdmebcfedehiaaPtAA
import Derived.Test.YtkdmebcfedehiaaPtAB
import Derived.Test.YtkdmebcfedehiaaPtAC
import Derived.Test.YtkdmebcfedehiaaPtAD
import Derived.Test.YtkdmebcfedehiaaPtAE
import Derived.Test.YtkdmebcfedehiaaPtAF
import Derived.Test.YtkdmebcfedehiaaPtAG
import Derived.Test.YtkdmebcfedehiaaPtAH
import Derived.Test.YtkdmebcfedehiaaPtAI
import Derived.Test.YtkdmebcfedehiaaPtAJ
import Derived.Test.YtkdmebcfedehiaaPtAK
import Derived.Test.YtkdmebcfedehiaaPtAL
import Derived.Test.YtkdmebcfedehiaaPtAM
set_option linter.unusedVariables false
/- The law WireCalls. Printed by gens/wirecalls.py. -/
namespace Go.Proofs.Ytkdmebcfedehiaa
open Go.RowKit

/-- call i of a script that came in -/
def OpAt (w : World) (a : Option Addr) (i : Nat) : Prop :=
  ∃ b off call q aq nq cq k an n cn ab m cb ns bt ad nd cd ld, a = some ⟨b, off, none⟩ ∧ w.rangeAt b (off + i * 28) (opC call q (.slice aq nq cq) ((k : Nat) : Int) (.slice an n cn) (.slice ab m cb) (.slice ad nd cd)).toList ∧ q.ix.length = 16 ∧ q.kind < 256 ∧ LeaseOk q.who q.till ∧ BLies w aq q.bytes ∧ q.bytes.length = nq ∧ nq ≤ 2000000 ∧ k < 256 ∧ Lies w an (IV ns) ∧ BLies w ab bt ∧ ns.length = n ∧ bt.length = m ∧ n ≤ 2000000 ∧ m ≤ 2000000 ∧ BLies w ad ld ∧ ld.length = nd ∧ nd ≤ 2000000 ∧ nd ≤ cd
theorem Own.nb {w : World} {b e size : Nat} {a : Option Addr} {n c : Nat} {xs : List Value} (h : Own w b e size a n c xs) (hc : 0 < c) {g : Nat} (ha : a = some ⟨g, 0, none⟩) (hne : e ≠ 5) : NB w g := by
  rcases h.2 with ⟨_, h0⟩ | ⟨g', cur, ha', hb, hh, _⟩
  · omega
  · rw [ha] at ha'
    injection ha' with ha'; injection ha' with ha'
    subst ha'
    exact ⟨cur, e, _, hh, hne⟩
theorem Own.belowT {base : Nat} {L : List Sl} {w w' : World} (hB : BelowT base L w w') {b e size : Nat} {a : Option Addr} {n c : Nat} {xs : List Value} (h : Own w b e size a n c xs) (hne : e ≠ 5) : Own w' b e size a n c xs :=
  Own.kept' h (fun hc g ha _ => hB.other g (Own.nb h hc ha hne))
theorem Row.belowT {base : Nat} {L : List Sl} {w w' : World} (hB : BelowT base L w w') {g t : Nat} {cs : Array Value} (h : Row w g t cs) (hne : t ≠ 5) : Row w' g t cs :=
  (hB.other g ⟨cs, t, _, h, hne⟩).trans h
theorem LIsI.belowT {base : Nat} {L : List Sl} {w w' : World} (hB : BelowT base L w w') {b : Nat} {a : Option Addr} {n c : Nat} {is : List (List Int)} {M : List Sl} (h : LIsI w b a n c is M) : LIsI w' b a n c is M :=
  ⟨Own.belowT hB h.outer (by decide), h.len, fun i h1 h2 => Own.belowT hB (h.inner i h1 h2) (by decide), h.apart⟩
theorem LIs.llies {w : World} {base : Nat} {a : Option Addr} {n c : Nat} {bs : List (List UInt8)} {L : List Sl} (h : LIs w base a n c bs L) : LLies w a L bs := by
  refine ⟨?_, h.len, fun i h1 h2 => ⟨(h.inner i h1 h2).lies, (h.inner i h1 h2).len.symm⟩⟩
  intro k hk
  obtain ⟨g, e, _, _, hc, _⟩ := Own.cell h.outer k hk
  exact ⟨g, 0, e, by rw [Nat.zero_add, hc]⟩
theorem LIsI.at {w : World} {base : Nat} {a : Option Addr} {n c : Nat} {is : List (List Int)} {L : List Sl} (h : LIsI w base a n c is L) (i : Nat) (hi : i < is.length) : ∃ g sa m sc, a = some ⟨g, 0, none⟩ ∧ w.cell? ⟨g, i, none⟩ = some (.slice sa m sc) ∧ Lies w sa (IV is[i]) ∧ (is[i]).length = m := by
  have hl : i < L.length := by rw [h.len]; exact hi
  obtain ⟨g, e, _, _, hc, _⟩ := Own.cell h.outer i (by simpa using hl)
  exact ⟨g, (L[i]).a, (L[i]).n, (L[i]).c, e, by rw [hc]; simp [Sl.val], IOwn.lies (h.inner i hl hi), IOwn.len (h.inner i hl hi)⟩
theorem quietSI {P : Program} {f : FuncId} {args : Array Value} {w : World} {n : Nat} {v : Value} (h : Calls P f args (w.drewN n) fun e w' => e = .returned v ∧ ∃ q, w' = (w.drewN n).drewN q) : Calls P f args (w.drewN n) fun e w'' => e = .returned v ∧ ∃ m, w'' = w.drewN m :=
  h.mono fun _ _ ⟨he, q, hw⟩ => ⟨he, n + q, by rw [hw, World.drewN_drewN]⟩
theorem sameI_yes (a a' : Option Addr) (c c' n n' : Nat) (la : List Int) (w : World) (ha : Lies w a (IV la)) (hb : Lies w a' (IV la)) (hla : la.length = n) (hlb : la.length = n') (hn : n ≤ maxLen) :
    Calls Try.prog 18 #[.slice a n c, .slice a' n' c'] w fun e w' => e = .returned (.bool true) ∧ ∃ q, w' = w.drewN q := by
  subst hla; subst hlb
  refine (sameInts_any a a' c c' la la w ha hb hn).mono fun e w' ⟨h1, q, h2⟩ => ⟨by rw [h1]; simp, q, h2⟩
theorem Lies.drewN' {w : World} {a : Option Addr} {xs : List Value} (h : Lies w a xs) (n : Nat) : Lies (w.drewN n) a xs := h.grown (grownBy_drewN w n none)
theorem info_book : ∃ i, Try.prog.info? 55 = some i ∧ i.zero = some (.agg #[.slice none 0 0, .slice none 0 0, .slice none 0 0, .slice none 0 0]) := ⟨(Try.prog.info? 55).getD default, by kernel_rfl, by kernel_rfl⟩
/-- the round's relation -/
def Rnd (w : World) (bk : Nat) (j : Nat) (wr : World) : Prop :=
  ∃ bs is, Book wr bk (bk + 1) bs is ∧ bs.length ≤ j ∧ is.length ≤ j ∧ (∀ x ∈ bs, x.length ≤ 50000000) ∧ (∀ x ∈ is, x.length ≤ 50000000) ∧ w.grownBy wr none ∧ bk + 1 ≤ wr.heap.size
theorem Rnd.ask {w : World} {bk j : Nat} {wr w' : World} {e : Ending} {bs : List (List UInt8)} {is : List (List Int)} (hl : bs.length ≤ j ∧ is.length ≤ j) (h1 : ∀ x ∈ bs, x.length ≤ 50000000) (h2 : ∀ x ∈ is, x.length ≤ 50000000) (hg : w.grownBy wr none) (hb : w.heap.size ≤ bk) (hz : bk + 1 ≤ wr.heap.size) (h : AskP wr bk (bk + 1) bs is e w') : e = .returned (.bool true) ∧ Rnd w bk (j + 1) w' := by
  obtain ⟨he, bs', is', k1, k2, k3, k4, k5, k6⟩ := h
  refine ⟨he, bs', is', k1, by omega, by omega, fun x hx => (k4 x hx).elim (h1 x) id, fun x hx => (k5 x hx).elim (h2 x) id, Ch.fresh hg k6 (fun g hg h => by omega), Nat.le_trans hz k6.size⟩

set_option maxRecDepth 100000 in
set_option maxHeartbeats 8000000 in
theorem calls_walk (a : Option Addr) (N c : Nat) (w : World) (hN : N ≤ 1048576) (hsc : ∀ i, i < N → OpAt w a i) :
    Calls Try.prog 7 #[.slice a N c] w fun e w' => e = .returned (.bool true) ∧ w.grownBy w' none := by
  obtain ⟨ib, hib, hibz⟩ := info_book
  have HSC := Lib.hid hsc
  clear hsc
  go_enter Try.func7, Try.ntmps7
  go_wp2_with fail
  refine (lives_n _).mono ?_
  rintro e w1 ⟨rfl, g⟩
  have G1 := Lib.hid g
  clear g
  go_upto_region 4 with (refine wpList_made rfl rfl hib hibz ?_; intro w2 hs g hr; have G2 := Lib.hid (grownBy_trans G1.out g); have RB := Lib.hid (show Row w2 w1.heap.size 55 #[.slice none 0 0, .slice none 0 0, .slice none 0 0, .slice none 0 0] from hr); clear hs g hr)
  obtain ⟨bk, hbk⟩ : ∃ bk, bk = w1.heap.size := ⟨_, rfl⟩
  rw [← hbk] at RB ⊢
  have HBK := Lib.hid (show w.heap.size ≤ bk ∧ bk + 1 ≤ w2.heap.size from ⟨by rw [hbk]; exact G1.out.size, RB.out.lt⟩)
  clear hbk
  have HR0 := Lib.hid (show Rnd w bk 0 w2 from ⟨[], [], ⟨none, 0, 0, [], none, 0, [], none, 0, 0, [], none, 0, [], RB.out, ⟨Own.nil _ _ _ _ _, rfl, fun i (h : i < 0) => absurd h (by omega), fun i j (h : i < 0) => absurd h (by omega)⟩, ⟨Own.nil _ _ _ _ _, rfl, fun i (h : i < 0) => absurd h (by omega), fun i j (h : i < 0) => absurd h (by omega)⟩, ⟨Own.nil _ _ _ _ _, rfl, fun i (h : i < 0) => absurd h (by omega), fun i j (h : i < 0) => absurd h (by omega)⟩, ⟨Own.nil _ _ _ _ _, rfl, fun i (h : i < 0) => absurd h (by omega), fun i j (h : i < 0) => absurd h (by omega)⟩, fun x h => absurd h.1 (by omega), fun x h => absurd h.1 (by omega)⟩, by simp, by simp, (fun x h => nomatch h), (fun x h => nomatch h), G2.out, HBK.out.2⟩)
  go_wp2_with fail
  go_loopw [4] (fun vi wr => ∃ i : Nat, i ≤ N ∧ vi = .int .i64 (i : Int) ∧ Rnd w bk (2 * i) wr) (fun vi _ => N - (intOf vi).toNat)
  case atStart => exact ⟨0, by omega, rfl, HR0.out⟩
  case round =>
    obtain ⟨i, hi, rfl, hrnd⟩ := hrel
    by_cases hlt : i < N
    · obtain ⟨b, off, call, q, aq, nq, cq, k, an, n, cn, ab, m, cb, ns, bt, ad, nd, cd, ld, rfl, x1, x2, x3, x4, x5, x6, x7, x8, x9, x10, x11, x12, x13, x14, x15, x16, x17, x18⟩ := HSC.out i hlt
      have HX := Lib.hid x2
      have HROW := Lib.hid x1
      have HASK := Lib.hid (fun (W : World) (j : Nat) (hj : j ≤ 4000000) (h : Rnd w bk j W) => (show Calls Try.prog 17 #[.pointer (some ⟨bk, 0, none⟩), .agg (opC call q (.slice aq nq cq) (k : Int) (.slice an n cn) (.slice ab m cb) (.slice ad nd cd))] W fun e w' => e = .returned (.bool true) ∧ Rnd w bk (j + 1) w' from by
        obtain ⟨bs, is, k1, k2, k3, k4, k5, k6, k7⟩ := h
        have hg : ∀ W', Ch (fun x => bk ≤ x) W W' → w.grownBy W' none := fun W' hc => Ch.fresh k6 hc (fun g hg h => by have := HBK.out.1; omega)
        refine (ask_n bk (bk + 1) bs is call q aq nq cq (k : Int) k an n cn ab m cb ns bt ad nd cd ld W k1 (by omega) k7 (by omega) (by omega) x2 x3 x4 (fun W' hc => x5.grown (hg W' hc)) x6 x7 rfl x8 (fun W' hc => x9.grown (hg W' hc)) (fun W' hc => x10.grown (hg W' hc)) x11 x12 x13 x14 (fun W' hc => x15.grown (hg W' hc)) x16 x17 x18).mono fun e w' h => ?_
        exact Rnd.ask ⟨k2, k3⟩ k4 k5 k6 HBK.out.1 k7 h))
      have HG := Lib.hid (show w.grownBy wr none from by obtain ⟨_, _, _, _, _, _, _, h, _⟩ := hrnd; exact h)
      have HRND := Lib.hid hrnd
      clear x1 x2 x3 x4 x5 x6 x7 x8 x9 x10 x11 x12 x13 x14 x15 x16 x17 x18 hrnd
      obtain ⟨OPV, hOPV⟩ : ∃ OPV, OPV = opC call q (.slice aq nq cq) (k : Int) (.slice an n cn) (.slice ab m cb) (.slice ad nd cd) := ⟨_, rfl⟩
      have HSZ := Lib.hid (show (Try.prog.info? 59).map (·.size) = some OPV.toList.length from by rw [size_op, hOPV, Array.length_toList, op_len _ _ _ _ _ _ _ HX.out])
      rw [← hOPV] at HROW HASK
      clear hOPV
      have HRG := Lib.hid (fun (W : World) (h : w.grownBy W none) => (show W.rangeAt b (off + i * 28) OPV.toList from fun j v hj => (h.cell (HROW.out j v hj) (by simp))))
      go_wp2_with ((with_reducible show wpList _ _ _ ({ dst := some 17, op := _, type := _, pos := _, after := _, guard := _ } :: _) _ _); refine wpList_load_mid rfl 59 _ rfl b (off + i * 28) rfl OPV.toList _ (HRG.out _ HG.out) Try.underlying59 rfl HSZ.out ?_)
      refine (HASK.out wr (2 * i) (by omega) HRND.out).mono ?_
      rintro e v1 ⟨rfl, hr⟩
      have HG2 := Lib.hid (show w.grownBy v1 none from by obtain ⟨_, _, _, _, _, _, _, h, _⟩ := hr; exact h)
      have HR1 := Lib.hid hr
      clear hr
      go_wp2_with ((with_reducible show wpList _ _ _ ({ dst := some 24, op := _, type := _, pos := _, after := _, guard := _ } :: _) _ _); refine wpList_load_midU (by kernel_rfl) 59 _ rfl b (off + i * 28) rfl OPV.toList _ (HRG.out _ HG2.out) Try.underlying59 rfl HSZ.out ?_)
      refine (HASK.out v1 (2 * i + 1) (by omega) HR1.out).mono ?_
      rintro e v2 ⟨rfl, hr⟩
      have HR2 := Lib.hid hr
      clear hr
      go_wp2_with fail
      go_roundw
      case rel => exact ⟨i + 1, by omega, by first | rfl | go_num, HR2.out⟩
      case measure => simp [intOf]; omega
    · obtain rfl : i = N := by omega
      obtain ⟨bs, is, ⟨a0, nn, c0, L0l, a1, c1, L1l, a2, mm, c2, M0l, a3, c3, M1l, k1, k2, k3, k4, k5, k6, k7⟩, l1, l2, s1, s2, hg, hz⟩ := hrnd
      obtain ⟨W, rfl⟩ : ∃ W, W = wr := ⟨_, rfl⟩
      have RB := Lib.hid k1
      have L0 := Lib.hid k2
      have L1 := Lib.hid k3
      have M0 := Lib.hid k4
      have M1 := Lib.hid k5
      have S1 := Lib.hid s1
      have S2 := Lib.hid s2
      have HG := Lib.hid hg
      have HZ := Lib.hid hz
      have hnn : nn ≤ 2097152 := by have h1 := k2.len; have h2 := SOwn.len k2.outer; omega
      have hmm : mm ≤ 2097152 := by have h1 := k4.len; have h2 := Ints.SOwn.len k4.outer; omega
      have HNL := Lib.hid (show bs.length = nn ∧ is.length = mm from ⟨by have h1 := k2.len; have h2 := SOwn.len k2.outer; omega, by have h1 := k4.len; have h2 := Ints.SOwn.len k4.outer; omega⟩)
      clear k1 k2 k3 k4 k5 k6 k7 l1 l2 s1 s2 hg hz
      go_wp2_with fail
      go_loopw [5] (fun vi wr => ∃ i qd : Nat, i ≤ mm ∧ vi = .int .i64 (i : Int) ∧ wr = W.drewN qd) (fun vi _ => mm - (intOf vi).toNat)
      case atStart => exact ⟨0, 0, by omega, rfl, rfl⟩
      case round =>
        obtain ⟨i, qd, hi, rfl, rfl⟩ := hrel
        obtain ⟨V, hV⟩ : ∃ V, V = W.drewN qd := ⟨_, rfl⟩
        have gV : W.grownBy V none := hV ▸ grownBy_drewN _ _ _
        rw [← hV]
        have RBV := Lib.hid (RB.out.grown gV)
        have x2 := Row.cell RBV.out 2
        have x3 := Row.cell RBV.out 3
        simp at x2 x3
        by_cases hlt : i < mm
        · obtain ⟨g, sa, m1, sc, rfl, y1, y2, y3⟩ := (M0.out.grown gV).at i (by have := HNL.out; omega)
          obtain ⟨g', sa', m2, sc', rfl, z1, z2, z3⟩ := (M1.out.grown gV).at i (by have := HNL.out; omega)
          have Y2 := Lib.hid y2
          have Y3 := Lib.hid y3
          have Z2 := Lib.hid z2
          have Z3 := Lib.hid z3
          have HML := Lib.hid (show m1 ≤ maxLen from by have h := S2.out _ (List.getElem_mem (show i < is.length by have := HNL.out; omega)); unfold maxLen; omega)
          have HV := Lib.hid hV
          clear y2 y3 z2 z3 hV gV
          go_wp2_with fail
          go_quiet ((go_at_call 18; exact quietSI (sameI_yes sa sa' sc sc' m1 m2 _ _ (Y2.out.drewN' _) (Z2.out.drewN' _) Y3.out Z3.out HML.out)))
          go_wp2_with fail
          go_roundw
          case rel => exact ⟨i + 1, qd + nq, by omega, by first | rfl | go_num, by rw [HV.out, World.drewN_drewN]⟩
          case measure => simp [intOf]; omega
        · obtain rfl : i = mm := by omega
          have x0 := Row.cell RBV.out 0
          have x1 := Row.cell RBV.out 1
          simp at x0 x1
          have HGV := Lib.hid (grownBy_trans HG.out gV)
          have L0V := Lib.hid (L0.out.grown gV)
          have L1V := Lib.hid (L1.out.grown gV)
          have M0V := Lib.hid (M0.out.grown gV)
          have HZV := Lib.hid (Nat.le_trans HZ.out gV.size)
          clear hV gV
          go_wp2_with fail
          refine (sameLists_n a0 a1 c0 c1 nn nn L0l L1l bs bs V L0V.out.llies L1V.out.llies HNL.out.1 HNL.out.1 (by unfold maxLen; omega) (fun b hb => by have := S1.out b hb; unfold maxLen; omega)).mono ?_
          rintro e V1 ⟨rfl, qe, rfl⟩
          rw [decide_eq_true rfl]
          obtain ⟨V1, hV1⟩ : ∃ V1, V1 = V.drewN qe := ⟨_, rfl⟩
          have g1 : V.grownBy V1 none := hV1 ▸ grownBy_drewN _ _ _
          rw [← hV1]
          have RB1 := Lib.hid (RBV.out.grown g1)
          have L01 := Lib.hid (L0V.out.grown g1)
          have M01 := Lib.hid (M0V.out.grown g1)
          have HG1 := Lib.hid (grownBy_trans HGV.out g1)
          have HZ1 := Lib.hid (Nat.le_trans HZV.out g1.size)
          clear x0 x1 x2 x3 hV1 g1
          have x0 := Row.cell RB1.out 0
          have x2 := Row.cell RB1.out 2
          simp at x0 x2
          go_wp2_with fail
          refine (apartT_n (bk + 1) a0 c0 nn L0l V1 (tst1_own L01.out.outer (fun j hj => ⟨_, L01.out.inner j hj (by have := L01.out.len; omega)⟩)) HZ1.out L01.out.apart (SOwn.len L01.out.outer) (by omega) (fun j hj => by
            have h1 := L01.out.inner j hj (by have := L01.out.len; omega)
            have h2 := h1.len
            have h3 := S1.out _ (List.getElem_mem (show j < bs.length by have := L01.out.len; omega))
            omega)).mono ?_
          rintro e V2 ⟨rfl, hbel⟩
          have HBEL := Lib.hid hbel
          have RB2 := Lib.hid (Row.belowT hbel RB1.out (by decide))
          have M02 := Lib.hid (LIsI.belowT hbel M01.out)
          clear x0 x2 hbel
          have x2 := Row.cell RB2.out 2
          simp at x2
          go_wp2_with fail
          refine (Ints.apart_n (bk + 1) a2 c2 i M0l V2 ⟨by rw [Ints.SOwn.len M02.out.outer]; exact M02.out.outer, fun j hj => ⟨_, M02.out.inner j hj (by have := M02.out.len; omega), fun h => absurd h (by omega), fun _ => by simp [Ints.mkl]⟩, Below.refl _ _⟩ (Nat.le_trans HZ1.out HBEL.out.toBelow.size) M02.out.apart (Ints.SOwn.len M02.out.outer) (by omega) (fun j hj => by
            have h1 := M02.out.inner j hj (by have := M02.out.len; omega)
            have h2 := IOwn.len h1
            have h3 := S2.out _ (List.getElem_mem (show j < is.length by have := M02.out.len; omega))
            omega)).mono ?_
          rintro e V3 ⟨rfl, hb3⟩
          have HB3 := Lib.hid hb3
          clear x2 hb3
          go_wp2_with fail
          go_ret
          have hb := HBEL.out.toBelow.trans HB3.out
          refine ⟨rfl, ⟨hb.os.trans HG1.out.os, hb.tape.trans HG1.out.tape, hb.output.trans HG1.out.output, Nat.le_trans HG1.out.size hb.size, fun k hk hr => (hb.block k (by have := HBK.out.1; omega)).trans (HG1.out.block k hk hr)⟩⟩
end Go.Proofs.Ytkdmebcfedehiaa
/- Scripts of calls that came in. Printed by gens/opsrd.py. -/
namespace Go.Proofs.Ytkdmebcfedehiaa
open Go.ChangeShapes Go.WideShapes Go.ChangeAt Go.RowKit

section
variable {H : Type} {enc : TypeId × Value → H} {w : World} {base : Nat} {spare : Nat → Bool} {held : Bool}
set_option maxRecDepth 100000 in
set_option maxHeartbeats 1000000 in
theorem rd_op {fuel : Nat} {cs : List Value} {d : DataW H} {p : List MemPlace} (hl : cs.length = 28) (hf : DataW.trod enc Try.prog w base spare held fuel 59 cs = some (d, p)) :
    ∃ (call : Int) (q : Rq) (aq : Option Addr) (nq cq k : Nat) (an : Option Addr) (n cn : Nat) (ab : Option Addr) (m cb : Nat) (ns : List Int) (bt : List UInt8) (ad : Option Addr) (nd cd : Nat) (ld : List UInt8), cs = (opC call q (.slice aq nq cq) (k : Int) (.slice an n cn) (.slice ab m cb) (.slice ad nd cd)).toList ∧ q.ix.length = 16 ∧ q.kind < 256 ∧ LeaseOk q.who q.till ∧ BLies w aq q.bytes ∧ q.bytes.length = nq ∧ k < 256 ∧ Lies w an (IV ns) ∧ BLies w ab bt ∧ ns.length = n ∧ bt.length = m ∧ BLies w ad ld ∧ ld.length = nd ∧ nd ≤ cd ∧ nq ≤ Rows.uptoBulk d ∧ n ≤ Rows.uptoBulk d ∧ m ≤ Rows.uptoBulk d ∧ nd ≤ Rows.uptoBulk d := by
  obtain ⟨xs, m, _, hx, _, hxl, hi⟩ := DataW.trod_struct Try.underlying59 hf
  have h0 := hi 0 _ rfl
  have h1 := hi 1 _ rfl
  have h2 := hi 2 _ rfl
  have h3 := hi 3 _ rfl
  have hxl4 : xs.length = 4 := hxl
  match cs, hl with
  | [v0, v1, v2, v3, v4, v5, v6, v7, v8, v9, v10, v11, v12, v13, v14, v15, v16, v17, v18, v19, v20, v21, v22, v23, v24, v25, v26, v27], _ =>
    match xs, hxl4 with
    | [y0, y1, y2, y3], _ =>
      have t0 : DataW.trod enc Try.prog w base spare held m 3 [v0] = some (y0.1, y0.2) := h0
      have t1 : DataW.trod enc Try.prog w base spare held m 43 [v1, v2, v3, v4, v5, v6, v7, v8, v9, v10, v11, v12, v13, v14, v15, v16, v17, v18, v19, v20, v21, v22, v23] = some (y1.1, y1.2) := h1
      have t2 : DataW.trod enc Try.prog w base spare held m 26 [v24, v25, v26] = some (y2.1, y2.2) := h2
      have t3 : DataW.trod enc Try.prog w base spare held m 24 [v27] = some (y3.1, y3.2) := h3
      have b1 : Rows.uptoBulk y1.1 ≤ Rows.uptoBulk d := by
        injection hx with hx _
        rw [hx]
        simp only [Rows.uptoBulk]
        have := bulk_mem (l := [y0, y1, y2, y3].map (·.1)) (d := y1.1) (by simp)
        omega
      have b2 : Rows.uptoBulk y2.1 ≤ Rows.uptoBulk d := by
        injection hx with hx _
        rw [hx]
        simp only [Rows.uptoBulk]
        have := bulk_mem (l := [y0, y1, y2, y3].map (·.1)) (d := y2.1) (by simp)
        omega
      have b3 : Rows.uptoBulk y3.1 ≤ Rows.uptoBulk d := by
        injection hx with hx _
        rw [hx]
        simp only [Rows.uptoBulk]
        have := bulk_mem (l := [y0, y1, y2, y3].map (·.1)) (d := y3.1) (by simp)
        omega
      obtain ⟨n0, e0, _, w0⟩ := DataW.trod_int Try.underlying3 t0
      injection e0 with e0 _
      obtain ⟨q, aq, nq, cq, e1, k1, k2, k3, k4, k5, k6, k7, k8⟩ := rd_req rfl t1
      obtain ⟨k, an, nn, cn, ab, nb, cb, ns, bt, e2, j1, j2, j3, j4, j5, j6, j7, j8, j9, j10, j11⟩ := rd_rep rfl t2
      have hs : ∃ a ln c, v27 = .slice a ln c := by
        rcases open_ints Try.underlying24 Try.underlying5 (by kernel_rfl) t3 with ⟨hcs, _⟩ | ⟨x, len', cap', zs, hcs, _⟩
        · injection hcs with hcs; exact ⟨_, _, _, hcs⟩
        · injection hcs with hcs; exact ⟨_, _, _, hcs⟩
      obtain ⟨ad, nd, cd, rfl⟩ := hs
      obtain ⟨ld, r1, r2, r3, r4, r5⟩ := rd_bytes t3
      refine ⟨n0, q, aq, nq, cq, k, an, nn, cn, ab, nb, cb, ns, bt, ad, nd, cd, ld, ?_, k2, k1, k7, k3, k4, j1, j2, j4, j3, j5, r2, r1, r4, by omega, by omega, by omega, by first | omega | skip⟩
      · unfold opC
        rw [← e1]
        injection e2 with f1 e2
        injection e2 with f2 e2
        injection e2 with f3 _
        rw [e0, f1, f2, f3]
        rfl
set_option maxRecDepth 100000 in
set_option maxHeartbeats 1000000 in
theorem rd_ops {fuel : Nat} {a : Option Addr} {len cap : Nat} {d : DataW H} {p : List MemPlace}
    (h : DataW.trod enc Try.prog w base spare held fuel 51 [.slice a len cap] = some (d, p)) : len ≤ Rows.uptoBulk d ∧ (Rows.uptoBulk d ≤ 2000000 → ∀ i, i < len → OpAt w a i) := by
  rcases Go.Deep.open_slice Try.underlying51 h with ⟨hcs, _⟩ | ⟨a', len', cap', m, n, D, Pl, hcs, hb, hl, hm, hmm, hx, hall⟩
  · injection hcs with hcs; injection hcs with h1 h2 h3
    subst h2
    exact ⟨by omega, fun _ i hi => absurd hi (by simp)⟩
  · injection hcs with hcs; injection hcs with h1 h2 h3
    subst h1 h2 h3
    have hlm : len ≤ m := by rw [hmm]; split <;> omega
    have hce : Try.prog.cellsOf 59 = 28 := by kernel_rfl
    injection hx with hx _
    subst hx
    have hbulk := bulk_slice (H := H) ((List.range len).map D) ((List.range (m - len)).map fun j => D (len + j))
    have hlen := bulk_length ((List.range len).map D)
    rw [List.length_map, List.length_range] at hlen
    refine ⟨by omega, fun hsm i hi => ?_⟩
    have hbm := bulk_mem (l := (List.range len).map D) (d := D i) (List.mem_map.2 ⟨i, List.mem_range.2 hi, rfl⟩)
    obtain ⟨cs', h1, h2⟩ := hall i (by omega)
    rw [hce] at h1
    obtain ⟨_, hlen2, hcell⟩ := World.cells?_some h1
    obtain ⟨call, q, aq, nq, cq, k, an, n2, cn, ab, m2, cb, ns, bt, ad, nd, cd, ld, e, f1, f2, f3, f4, f5, f6, f7, f8, f9, f10, f11, f12, f13, f14, f15, f16, f17⟩ := rd_op hlen2 h2
    subst e
    obtain ⟨b, off, spot⟩ := a'
    have hspot : spot = none := by
      obtain ⟨cs0, g1, _⟩ := hall 0 (by omega)
      rw [hce] at g1
      obtain ⟨_, klen, kcell⟩ := World.cells?_some g1
      have k0 := kcell 0 (by omega)
      rw [List.getElem?_eq_getElem (show 0 < cs0.length by omega)] at k0
      simpa [Addr.add] using World.cell?_spot k0
    subst hspot
    refine ⟨b, off, call, q, aq, nq, cq, k, an, n2, cn, ab, m2, cb, ns, bt, ad, nd, cd, ld, rfl, fun j v hj => ?_, f1, f2, f3, f4, f5, by omega, f6, f7, f8, f9, f10, by omega, by omega, f11, f12, by omega, f13⟩
    have hj3 : j < 28 := by
      rcases Nat.lt_or_ge j 28 with h | h
      · exact h
      · rw [List.getElem?_eq_none (by omega)] at hj; cases hj
    have hc := hcell j (by omega)
    rw [Go.WideShapes.add_plain, Go.WideShapes.add_plain] at hc
    rw [hc, hj]
end
end Go.Proofs.Ytkdmebcfedehiaa
