/- Helpers and contracts of the proofs over this seat: KeptLists, OverLists, ApartW, Apart2, ApartT, ApLists. Each states what a function of the program answers, or is plain Lean; its conditions stand in each statement. -/
import Derived.Test.YthemlaibjchjpaaPtAA
import Derived.Test.YthemlaibjchjpaaPtAB
import Derived.Test.YthemlaibjchjpaaPtAD
set_option linter.unusedVariables false
/- SameLists, KeptLists, OverLists. -/
namespace Go.Proofs.Ythemlaibjchjpaa
open Go.RowKit

theorem quietD {P : Program} {f : FuncId} {args : Array Value} {w : World} {n : Nat} {v : Value} (h : Calls P f args (w.drewN n) fun e w' => e = .returned v ∧ ∃ q, w' = (w.drewN n).drewN q) : Calls P f args (w.drewN n) fun e w'' => e = .returned v ∧ ∃ m, w'' = w.drewN m :=
  h.mono fun _ _ ⟨he, q, hw⟩ => ⟨he, n + q, by rw [hw, World.drewN_drewN]⟩

/-- where list i lies -/
theorem LLies.at {w : World} {a : Option Addr} {L : List Sl} {bs : List (List UInt8)} (h : LLies w a L bs) (i : Nat) (hi : i < bs.length) : ∃ g o sa m sc, a = some ⟨g, o, none⟩ ∧ w.cell? ⟨g, o + i, none⟩ = some (.slice sa m sc) ∧ BLies w sa bs[i] ∧ (bs[i]).length = m := by
  have hiL : i < L.length := by rw [h.2.1]; exact hi
  obtain ⟨g, o, e, hc⟩ := h.1 i (by rw [List.length_map]; exact hiL)
  obtain ⟨h1, h2⟩ := h.2.2 i hiL hi
  refine ⟨g, o, (L[i]).a, (L[i]).n, (L[i]).c, e, ?_, h1, h2.symm⟩
  rw [hc]
  simp [Sl.val]

set_option maxRecDepth 100000 in
set_option maxHeartbeats 1000000 in
theorem sameLists_yes (a a' : Option Addr) (c c' n : Nat) (L L' : List Sl) (bs : List (List UInt8)) (w : World) (ha : LLies w a L bs) (hb : LLies w a' L' bs) (hn : bs.length = n) (hm : n ≤ maxLen) (hl : ∀ b ∈ bs, b.length ≤ maxLen) :
    Calls Try.prog 20 #[.slice a n c, .slice a' n c'] w fun e w' => e = .returned (.bool true) ∧ ∃ q, w' = w.drewN q := by
  unfold maxLen at hm
  have HA := Lib.hid ha
  have HB := Lib.hid hb
  have HN := Lib.hid hn
  have HL := Lib.hid hl
  clear ha hb hn hl
  go_enter Try.func20, Try.ntmps20
  go_wp2_with fail
  go_loopw [5] (fun vi wr => ∃ i q : Nat, i ≤ n ∧ vi = .int .i64 i ∧ wr = w.drewN q) (fun vi _ => n - (intOf vi).toNat)
  case atStart => exact ⟨0, 0, by omega, rfl, rfl⟩
  case round =>
    obtain ⟨i, q0, hi, rfl, hq0⟩ := hrel
    have hgw : w.grownBy wr none := by rw [hq0]; exact grownBy_drewN _ _ _
    have HGW := Lib.hid hgw
    have HQ0 := Lib.hid hq0
    clear hgw hq0
    by_cases hlt : i < n
    · obtain ⟨g, o, sa, m, sc, rfl, c1, l1, h1⟩ := (HA.out.grown HGW.out).at i (by rw [HN.out]; exact hlt)
      obtain ⟨g', o', sa', m', sc', rfl, c2, l2, h2⟩ := (HB.out.grown HGW.out).at i (by rw [HN.out]; exact hlt)
      have hmx : (bs[i]'(by rw [HN.out]; exact hlt)).length ≤ maxLen := HL.out _ (List.getElem_mem _)
      have L1 := Lib.hid l1
      have L2 := Lib.hid l2
      have H1 := Lib.hid h1
      have H2 := Lib.hid h2
      have HMX := Lib.hid hmx
      clear l1 l2 h1 h2 hmx
      go_wp2_with fail
      go_quiet ((go_at_call 19; exact quietD (same_yes sa sa' sc sc' m m' _ _ (L1.out.drewN _) (L2.out.drewN _) H1.out H2.out (by rw [← H1.out]; exact HMX.out))))
      go_wp2_with fail
      go_roundw
      case rel => exact ⟨i + 1, q0 + nq, by omega, by go_num, by rw [HQ0.out, World.drewN_drewN]⟩
      case measure => simp [intOf]; omega
    · obtain rfl : i = n := by omega
      go_wp2_with fail
      go_ret
      exact ⟨rfl, _, HQ0.out⟩

/-- the lists without their marks -/
theorem pre_lies {w : World} {base : Nat} {aE aF : Option Addr} {n cE cF : Nat} {bs : List (List UInt8)} {Es Ms : List Sl} (hE : LIs w base aE n cE (bs.map lent) Es) (hF : SOwn w base aF (n + 70) cF (preS Es ++ Ms)) : LLies w aF (preS Es) bs := by
  have hl := hE.len
  rw [List.length_map] at hl
  refine ⟨fun k hk => ?_, by rw [preS_len, hl], fun i hi hi' => ?_⟩
  · rw [List.length_map, preS_len] at hk
    obtain ⟨g, e, _, _, hc, _⟩ := Own.cell hF k (by rw [List.length_map, List.length_append, preS_len]; omega)
    refine ⟨g, 0, e, ?_⟩
    rw [Nat.zero_add, hc]
    simp [preS_len, hk]
  · rw [preS_len] at hi
    have hb := hE.inner i hi (by rw [List.length_map]; exact hi')
    rw [List.getElem_map] at hb
    have hlen : (lent (bs[i])).length = (Es[i]).n := BOwn.len hb
    have h2 := (BOwn.lies hb).take (bs[i]).length
    rw [lent_take _ _ rfl] at h2
    have h3 := lent_length (bs[i])
    simp only [preS, List.getElem_map]
    exact ⟨h2, by omega⟩
theorem sown_cell {w : World} {base : Nat} {a : Option Addr} {n c : Nat} {L : List Sl} (h : SOwn w base a n c L) (k : Nat) (s : Sl) (hs : L[k]? = some s) : ∃ g, a = some ⟨g, 0, none⟩ ∧ w.cell? ⟨g, k, none⟩ = some (.slice s.a s.n s.c) ∧ w.frozen? ⟨g, k, none⟩ = false := by
  obtain ⟨hk, rfl⟩ := List.getElem?_eq_some_iff.1 hs
  obtain ⟨g, e, _, _, hc, hf⟩ := Own.cell h k (by rw [List.length_map]; exact hk)
  exact ⟨g, e, by rw [hc]; simp [Sl.val], hf⟩

set_option maxRecDepth 100000 in
set_option maxHeartbeats 4000000 in
theorem keptLists_yes (aF aE a : Option Addr) (base cF cE c n : Nat) (Es Ms L : List Sl) (bs : List (List UInt8)) (w : World) (hE : LIs w base aE n cE (bs.map lent) Es) (hF : SOwn w base aF (n + 70) cF (preS Es ++ Ms)) (hMl : Ms.length = 70)
    (hM : ∀ i (h : i < Ms.length), BOwn w base (Ms[i]).a 2 (Ms[i]).c [UInt8.ofNat i, 99] ∧ (Ms[i]).n = 2) (hL : LLies w a L bs) (hn : bs.length = n) (hb : ∀ b ∈ bs, b.length ≤ 4000000000) (hn2 : n ≤ 4000000000) :
    Calls Try.prog 53 #[.agg #[.slice aF n cF, .slice aF (n + 70) cF, .slice aE n cE], .slice a n c] w fun e w' => e = .returned (.bool true) ∧ w.grownBy w' none := by
  have hEl : Es.length = n := by have := hE.len; rw [List.length_map, hn] at this; exact this
  have hcF := (Own.cap hF).1
  obtain ⟨gF, haF, _, _⟩ := Own.block hF (by omega)
  subst haF
  have HP := Lib.hid (pre_lies hE hF)
  have HE := Lib.hid hE
  have HF := Lib.hid hF
  have HML := Lib.hid hMl
  have HM := Lib.hid hM
  have HL := Lib.hid hL
  have HN := Lib.hid hn
  have HB := Lib.hid hb
  have HEL := Lib.hid hEl
  have hw1 : IntKind.i64.wrap ((n : Int) + 70) = (n : Int) + 70 := IntWalk.i64_in _ (by omega)
  clear hE hF hMl hM hL hn hb hEl
  go_enter Try.func53, Try.ntmps53
  go_wp2_with (refine wpList_boxed rfl rfl #[.slice (some ⟨gF, 0, none⟩) n cF, .slice (some ⟨gF, 0, none⟩) (n + 70) cF, .slice aE n cE] rfl ?_; intro w1 hs1 hg1 hr1; have HG1 := Lib.hid hg1; have HR1 := Lib.hid hr1; have c1 := Row.cell hr1 1; have c2 := Row.cell hr1 2; simp at c1 c2; clear hs1 hg1 hr1)
  obtain ⟨b2, hb2⟩ : ∃ b2, b2 = w.heap.size := ⟨_, rfl⟩
  rw [← hb2] at HR1 c1 c2 ⊢
  clear hb2
  refine (sameLists_yes _ _ _ _ n _ _ bs w1 (HP.out.grown HG1.out) (HL.out.grown HG1.out) HN.out (by unfold maxLen; omega) (fun b hb => Nat.le_trans (HB.out b hb) (by decide))).mono ?_
  rintro e w2 ⟨rfl, q2, hq2⟩
  have hg2 : w1.grownBy w2 none := by rw [hq2]; exact grownBy_drewN _ _ _
  have HG2 := Lib.hid (grownBy_trans HG1.out hg2)
  have HR2 := Lib.hid (HR1.out.grown hg2)
  clear hq2 hg2 c1 c2 HR1 HG1
  go_wp2_with fail
  go_loopw [5] (fun vi wr => ∃ i : Nat, i ≤ n ∧ vi = .int .i64 i ∧ Row wr b2 88 #[.slice (some ⟨gF, 0, none⟩) n cF, .slice (some ⟨gF, 0, none⟩) (n + 70) cF, .slice aE n cE] ∧ w.grownBy wr none) (fun vi _ => n - (intOf vi).toNat)
  case atStart => exact ⟨0, by omega, rfl, HR2.out, HG2.out⟩
  case round =>
    obtain ⟨i, hi, rfl, hr, hg⟩ := hrel
    have HR := Lib.hid hr
    have HG := Lib.hid hg
    clear hr hg HR2 HG2
    by_cases hlt : i < n
    · obtain ⟨ga, oa, sa, m, sc, haa, c3, l3, h3⟩ := (HL.out.grown HG.out).at i (by rw [HN.out]; exact hlt)
      subst haa
      have hin := HE.out.inner i (by rw [HEL.out]; exact hlt) (by rw [List.length_map, HN.out]; exact hlt)
      rw [List.getElem_map] at hin
      obtain ⟨gE, haE, c4, _⟩ := sown_cell (Own.ch HE.out.outer (Ch.ofNone HG.out (fun _ => False)) (fun _ _ _ h => h) : SOwn wr base aE n cE Es) i (Es[i]'(by rw [HEL.out]; exact hlt)) (List.getElem?_eq_getElem (by rw [HEL.out]; exact hlt))
      subst haE
      obtain ⟨s, hs⟩ : ∃ s, s = Es[i]'(by rw [HEL.out]; exact hlt) := ⟨_, rfl⟩
      obtain ⟨b, hbe⟩ : ∃ b, b = bs[i]'(by rw [HN.out]; exact hlt) := ⟨_, rfl⟩
      have hbl : b.length ≤ 4000000000 := HB.out b (by rw [hbe]; exact List.getElem_mem _)
      rw [← hs, ← hbe] at hin
      rw [← hs] at c4
      rw [← hbe] at l3 h3
      obtain ⟨ea, em, ec⟩ := s
      have hin' : BOwn w base ea em ec (lent b) := hin
      have hem : b.length + 70 = em := by have h1 := BOwn.len hin'; have h2 := lent_length b; omega
      have hc4 : wr.cell? ⟨gE, i, none⟩ = some (.slice ea em ec) := c4
      have f2 : ∀ u, wr.grownBy u none → u.cell? ⟨b2, 2, none⟩ = some (.slice (some ⟨gE, 0, none⟩) n cE) := fun u hu => by have := Row.cell (HR.out.grown hu) 2; simpa using this
      have f3 : ∀ u, wr.grownBy u none → u.cell? ⟨gE, i, none⟩ = some (.slice ea em ec) := fun u hu => (World.cell?_of_block (hu.block gE (World.block_lt_of_cell? _ _ hc4) (by simp))).trans hc4
      have f4 : ∀ u, wr.grownBy u none → u.cell? ⟨ga, oa + i, none⟩ = some (.slice sa m sc) := fun u hu => (World.cell?_of_block (hu.block ga (World.block_lt_of_cell? _ _ c3) (by simp))).trans c3
      have hkb : ∀ u, wr.grownBy u none → Calls Try.prog 16 #[.slice ea em ec, .slice sa m sc] u fun e w' => e = .returned (.bool true) ∧ u.grownBy w' none := fun u hu => by
        refine kept_yes ea sa ec sc m em b u ?_ (l3.grown hu) h3 (by omega) (by omega)
        exact (BOwn.lies (BOwn.grown (BOwn.grown hin' HG.out) hu))
      have HC1 := Lib.hid f2
      have HC2 := Lib.hid f3
      have HC3 := Lib.hid f4
      have HKB := Lib.hid hkb
      clear f2 f3 f4 hkb c3 l3 h3 hin hin' c4 hc4 hs hbe hem hbl
      go_upto_region 6 with fail
      refine wp_regionS (fun u => wr.grownBy u none) (by kernel_rfl) (grownBy_drewN wr 1 none) ?_
      refine wpS_take 0 (v := .pointer (some ⟨b2, 2, none⟩)) (oi := { dst := some 39, op := Op.fieldAddr 88 (Operand.tmp 2) 2, type := 0, pos := "nested.go:46", after := #[], guard := none }) rfl (by kernel_rfl) (by kernel_rfl) (by kernel_rfl) (fun _ _ _ h => h) (YS.val (by rfl) (fun _ _ => by go_simp)) ?_
      simp only [Act.put, List.setIfInBounds_toArray, List.set_cons_zero, List.set_cons_succ]
      refine wpS_take 1 (v := .slice (some ⟨gE, 0, none⟩) n cE) (oi := { dst := some 40, op := Op.load 24 (Operand.tmp 39), type := 24, pos := "nested.go:46", after := #[{ on := 0, ground := Ground.data }], guard := none }) rfl (by kernel_rfl) (by kernel_rfl) (by kernel_rfl) (fun _ _ _ h => h) (YS.val (by rfl) (fun u hu => by have hc1 := HC1.out u hu; go_simp)) ?_
      simp only [Act.put, List.setIfInBounds_toArray, List.set_cons_zero, List.set_cons_succ]
      refine wpS_take 2 (v := .int .i64 (i : Int)) (oi := { dst := some 41, op := Op.move (Operand.tmp 5), type := 3, pos := "nested.go:46", after := #[], guard := none }) rfl (by kernel_rfl) (by kernel_rfl) (by kernel_rfl) (fun _ _ _ h => h) (YS.val (by rfl) (fun _ _ => rfl)) ?_
      simp only [Act.put, List.setIfInBounds_toArray, List.set_cons_zero, List.set_cons_succ]
      refine wpS_take 3 (v := .pointer (some ⟨gE, i, none⟩)) (oi := { dst := some 42, op := Op.indexAddr 24 (Operand.tmp 40) (Operand.tmp 41), type := 0, pos := "nested.go:46", after := #[{ on := 1, ground := Ground.data }, { on := 2, ground := Ground.data }], guard := none }) rfl (by kernel_rfl) (by kernel_rfl) (by kernel_rfl) (fun _ _ _ h => h) (YS.val (by rfl) (fun _ _ => by go_simp)) ?_
      simp only [Act.put, List.setIfInBounds_toArray, List.set_cons_zero, List.set_cons_succ]
      refine wpS_take 4 (v := .slice ea em ec) (oi := { dst := some 43, op := Op.load 22 (Operand.tmp 42), type := 22, pos := "nested.go:46", after := #[{ on := 3, ground := Ground.data }], guard := none }) rfl (by kernel_rfl) (by kernel_rfl) (by kernel_rfl) (fun _ _ _ h => h) (YS.val (by rfl) (fun u hu => by have hc2 := HC2.out u hu; go_simp)) ?_
      simp only [Act.put, List.setIfInBounds_toArray, List.set_cons_zero, List.set_cons_succ]
      refine wpS_take 5 (v := .slice (some ⟨ga, oa, none⟩) n c) (oi := { dst := some 44, op := Op.move (Operand.tmp 1), type := 24, pos := "nested.go:46", after := #[], guard := none }) rfl (by kernel_rfl) (by kernel_rfl) (by kernel_rfl) (fun _ _ _ h => h) (YS.val (by rfl) (fun _ _ => rfl)) ?_
      simp only [Act.put, List.setIfInBounds_toArray, List.set_cons_zero, List.set_cons_succ]
      refine wpS_take 6 (v := .int .i64 (i : Int)) (oi := { dst := some 45, op := Op.move (Operand.tmp 5), type := 3, pos := "nested.go:46", after := #[], guard := none }) rfl (by kernel_rfl) (by kernel_rfl) (by kernel_rfl) (fun _ _ _ h => h) (YS.val (by rfl) (fun _ _ => rfl)) ?_
      simp only [Act.put, List.setIfInBounds_toArray, List.set_cons_zero, List.set_cons_succ]
      refine wpS_take 7 (v := .pointer (some ⟨ga, oa + i, none⟩)) (oi := { dst := some 46, op := Op.indexAddr 24 (Operand.tmp 44) (Operand.tmp 45), type := 0, pos := "nested.go:46", after := #[{ on := 5, ground := Ground.data }, { on := 6, ground := Ground.data }], guard := none }) rfl (by kernel_rfl) (by kernel_rfl) (by kernel_rfl) (fun _ _ _ h => h) (YS.val (by rfl) (fun _ _ => by go_simp)) ?_
      simp only [Act.put, List.setIfInBounds_toArray, List.set_cons_zero, List.set_cons_succ]
      refine wpS_take 8 (v := .slice sa m sc) (oi := { dst := some 47, op := Op.load 22 (Operand.tmp 46), type := 22, pos := "nested.go:46", after := #[{ on := 7, ground := Ground.data }], guard := none }) rfl (by kernel_rfl) (by kernel_rfl) (by kernel_rfl) (fun _ _ _ h => h) (YS.val (by rfl) (fun u hu => by have hc3 := HC3.out u hu; go_simp)) ?_
      simp only [Act.put, List.setIfInBounds_toArray, List.set_cons_zero, List.set_cons_succ]
      refine wpS_take 9 (v := .bool true) (oi := { dst := some 48, op := Op.call { callee := Callee.value (Operand.func 16), args := #[Operand.tmp 43, Operand.tmp 47], argTypes := #[22, 22] }, type := 4, pos := "nested.go:46", after := #[{ on := 4, ground := Ground.data }, { on := 8, ground := Ground.data }], guard := none }) rfl (by kernel_rfl) (by kernel_rfl) (by kernel_rfl) (fun _ _ _ h => h) (YS.call (f := 16) (args := #[.slice ea em ec, .slice sa m sc]) (by rfl) (fun _ => by go_simp) (fun u hu => (HKB.out u hu).mono fun _ _ h => ⟨h.1, grownBy_trans hu h.2⟩)) ?_
      simp only [Act.put, List.setIfInBounds_toArray, List.set_cons_zero, List.set_cons_succ]
      refine wpS_take 10 (v := .bool false) (oi := { dst := some 49, op := Op.unOp UnOp.not 4 (Operand.tmp 48), type := 4, pos := "nested.go:46", after := #[{ on := 9, ground := Ground.data }], guard := none }) rfl (by kernel_rfl) (by kernel_rfl) (by kernel_rfl) (fun _ _ _ h => h) (YS.val (by rfl) (fun _ _ => by go_simp)) ?_
      simp only [Act.put, List.setIfInBounds_toArray, List.set_cons_zero, List.set_cons_succ]
      refine wpS_done (by kernel_rfl) (fun u4 hS4 => ?_) _
      have HR4 := Lib.hid (HR.out.grown hS4)
      have HG4 := Lib.hid (grownBy_trans HG.out hS4)
      clear hS4 HC1 HC2 HC3 HKB HR HG
      go_wp2_with fail
      go_roundw
      case rel => exact ⟨i + 1, by omega, by go_num, HR4.out, HG4.out⟩
      case measure => simp [intOf]; omega
    · obtain rfl : i = n := by omega
      go_wp2_with fail
      go_loopw [6] (fun vj wr2 => ∃ j : Nat, j ≤ 70 ∧ vj = .int .i64 j ∧ Row wr2 b2 88 #[.slice (some ⟨gF, 0, none⟩) i cF, .slice (some ⟨gF, 0, none⟩) (i + 70) cF, .slice aE i cE] ∧ w.grownBy wr2 none) (fun vj _ => 70 - (intOf vj).toNat)
      case atStart => exact ⟨0, by omega, rfl, HR.out, HG.out⟩
      case round =>
        obtain ⟨j, hj, rfl, hr, hg⟩ := hrel
        replace HR := Lib.hid hr
        replace HG := Lib.hid hg
        clear hr hg
        by_cases hlt2 : j < 70
        · obtain ⟨h1, h2⟩ := HM.out j (by rw [HML.out]; exact hlt2)
          have hget : (preS Es ++ Ms)[i + j]? = some (Ms[j]'(by rw [HML.out]; exact hlt2)) := by
            rw [List.getElem?_append_right (by rw [preS_len, HEL.out]; omega), preS_len, HEL.out, Nat.add_sub_cancel_left]
            exact List.getElem?_eq_getElem _
          obtain ⟨g', e', c4, _⟩ := sown_cell (Own.ch HF.out (Ch.ofNone HG.out (fun _ => False)) (fun _ _ _ h => h) : SOwn wr base (some ⟨gF, 0, none⟩) (i + 70) cF (preS Es ++ Ms)) (i + j) _ hget
          injection e' with e'; injection e' with e'
          subst e'
          obtain ⟨s, hs⟩ : ∃ s, s = Ms[j]'(by rw [HML.out]; exact hlt2) := ⟨_, rfl⟩
          rw [← hs] at h1 h2 c4
          obtain ⟨ma, mn, mc⟩ := s
          have h2' : mn = 2 := h2
          subst h2'
          have h1' : BOwn w base ma 2 mc [UInt8.ofNat j, 99] := h1
          have hl1 := BOwn.lies (BOwn.grown h1' HG.out)
          obtain ⟨gm, om, hma, cm0⟩ := hl1 0 (by simp)
          obtain ⟨gm', om', hma', cm1⟩ := hl1 1 (by simp)
          subst hma
          injection hma' with hma'; injection hma' with e1 e2
          subst e1; subst e2
          have hz : ((UInt8.ofNat j).toNat : Int) = (j : Int) := by rw [UInt8.toNat_ofNat']; omega
          have cm0' : wr.cell? ⟨gm, om, none⟩ = some (.int .u8 (j : Int)) := by rw [← hz]; simpa using cm0
          have cm1' : wr.cell? ⟨gm, om + 1, none⟩ = some (.int .u8 99) := by simpa using cm1
          have c5 : wr.cell? ⟨gF, i + j, none⟩ = some (.slice (some ⟨gm, om, none⟩) 2 mc) := c4
          have c1 := Row.cell HR.out 1
          simp at c1
          have hwj : IntKind.u8.wrap (j : Int) = (j : Int) := IntWalk.u8_in _ (by omega)
          have hw2 : IntKind.i64.wrap ((i : Int) + (j : Int)) = (i : Int) + (j : Int) := IntWalk.i64_in _ (by omega)
          have hb1 : (0 : Int) ≤ (i : Int) + (j : Int) := by omega
          have hb2 : (i : Int) + (j : Int) < (i : Int) + 70 := by omega
          have hb2' : (i : Int) + (j : Int) < ((i + 70 : Nat) : Int) := by omega
          have hb3 : ((i : Int) + (j : Int)).toNat = i + j := by omega
          clear h1 h2 hget c4 hs h1' hl1 cm0 cm1 hz
          go_wp2_with fail
          go_roundw
          case rel => exact ⟨j + 1, by omega, by go_num, HR.out, HG.out⟩
          case measure => simp [intOf]; omega
        · obtain rfl : j = 70 := by omega
          go_wp2_with fail
          go_ret
          exact ⟨rfl, HG.out⟩

end Go.Proofs.Ythemlaibjchjpaa
/- OverLists: what was handed in is written over; behind it the list holds so many times 1, 2, 3. -/
namespace Go.Proofs.Ythemlaibjchjpaa
open Go.RowKit

set_option maxRecDepth 100000 in
set_option maxHeartbeats 4000000 in
theorem overLists_n (aE : Option Addr) (base top gF cF cE n : Nat) (Es Fs : List Sl) (bs : List (List UInt8)) (w : World) (hE : LIs w base aE n cE bs Es) (hF : SOwn w base (some ⟨gF, 0, none⟩) (n + 70) cF Fs)
    (htE : ∀ i (h : i < Es.length) g, In (Es[i]).a (Es[i]).c g → g < top) (htF : gF < top) (hpos : ∀ b ∈ bs, 0 < b.length ∧ b.length ≤ 4000000100) (htop : top ≤ w.heap.size) (hn2 : n ≤ 4000000000) :
    Calls Try.prog 54 #[.agg #[.slice (some ⟨gF, 0, none⟩) n cF, .slice (some ⟨gF, 0, none⟩) (n + 70) cF, .slice aE n cE]] w fun e w' => e = .returned (.tuple #[]) ∧ (∃ Lc, LLies w' (some ⟨gF, 0, none⟩) Lc (List.replicate n [1, 2, 3])) ∧ Ch (fun g => base ≤ g ∧ g < top) w w' := by
  have hEl : Es.length = n := by have h1 := hE.outer; have := h1.1; simpa using this
  have hbl : bs.length = n := by rw [← hE.len, hEl]
  have hcF := (Own.cap hF).1
  have hgF := (Own.inn hF (g := gF) ⟨by omega, rfl⟩)
  have HE := Lib.hid hE
  have HF := Lib.hid hF
  have HTE := Lib.hid htE
  have HPOS := Lib.hid hpos
  have HEL := Lib.hid hEl
  have HBL := Lib.hid hbl
  have hgb := hgF.1
  clear hE hF htE hpos hEl hbl hgF
  go_enter Try.func54, Try.ntmps54
  go_wp2_with (refine wpList_boxed rfl rfl #[.slice (some ⟨gF, 0, none⟩) n cF, .slice (some ⟨gF, 0, none⟩) (n + 70) cF, .slice aE n cE] rfl ?_; intro w1 hs1 hg1 hr1; have HG1 := Lib.hid hg1; have HR1 := Lib.hid hr1; clear hs1 hg1 hr1)
  obtain ⟨b1, hb1⟩ : ∃ b1, b1 = w.heap.size := ⟨_, rfl⟩
  have hbt : top ≤ b1 := by omega
  have HE1 := Lib.hid (HE.out.grown HG1.out)
  have HF1 : Hid (SOwn w1 base (some ⟨gF, 0, none⟩) (n + 70) cF Fs) := Lib.hid (Own.ch HF.out (Ch.ofNone HG1.out (fun _ => False)) (fun _ _ _ h => h))
  rw [← hb1] at HR1 ⊢
  clear hb1
  go_loopw [2] (fun vi wr => ∃ i : Nat, i ≤ n ∧ vi = .int .i64 i ∧ Row wr b1 88 #[.slice (some ⟨gF, 0, none⟩) n cF, .slice (some ⟨gF, 0, none⟩) (n + 70) cF, .slice aE n cE] ∧ SOwn wr base aE n cE Es ∧ SOwn wr base (some ⟨gF, 0, none⟩) (n + 70) cF Fs ∧ (∀ j (h : j < Es.length), ∃ l, BOwn wr base (Es[j]).a (Es[j]).n (Es[j]).c l ∧ 0 < l.length ∧ l.length ≤ 4000000100) ∧ Ch (fun g => base ≤ g ∧ g < top) w wr) (fun vi _ => n - (intOf vi).toNat)
  case atStart => exact ⟨0, by omega, rfl, HR1.out, HE1.out.outer, HF1.out, fun j hj => by
    have hjb : j < bs.length := by rw [HBL.out, ← HEL.out]; exact hj
    exact ⟨bs[j], HE1.out.inner j hj hjb, HPOS.out _ (List.getElem_mem _)⟩, Ch.ofNone HG1.out _⟩
  case round =>
    obtain ⟨i, hi, rfl, hr, ho, hf, hall, hch⟩ := hrel
    have HR := Lib.hid hr
    have HO := Lib.hid ho
    have HFF := Lib.hid hf
    have HALL := Lib.hid hall
    have HCH := Lib.hid hch
    have c2 := Row.cell HR.out 2
    have c1 := Row.cell HR.out 1
    simp at c1 c2
    clear hr ho hf hall hch HR1 HE1 HF1
    by_cases hlt : i < n
    · obtain ⟨l, hbo, hl0, hl1⟩ := HALL.out i (by rw [HEL.out]; exact hlt)
      obtain ⟨gE, haE, c4, _⟩ := sown_cell HO.out i (Es[i]'(by rw [HEL.out]; exact hlt)) (List.getElem?_eq_getElem (by rw [HEL.out]; exact hlt))
      subst haE
      have hte := HTE.out i (by rw [HEL.out]; exact hlt)
      have hdis := HE.out.apart
      obtain ⟨s, hs⟩ : ∃ s, s = Es[i]'(by rw [HEL.out]; exact hlt) := ⟨_, rfl⟩
      have hapart : ∀ j (h : j < Es.length), j ≠ i → ∀ g, (Es[j]).blk = some g → s.blk ≠ some g := fun j h hne g hg => by rw [hs]; exact hdis j i h (by rw [HEL.out]; exact hlt) hne g hg
      rw [← hs] at hbo c4 hte
      obtain ⟨ea, em, ec⟩ := s
      have hbo' : BOwn wr base ea em ec l := hbo
      have hem : l.length = em := BOwn.len hbo'
      have hcap := (Own.cap hbo').1
      obtain ⟨g, hea, hg1, hg2⟩ := Own.block hbo' (by omega)
      subst hea
      have hgt : g < top := hte g ⟨by show 0 < ec; omega, rfl⟩
      have hc4 : wr.cell? ⟨gE, i, none⟩ = some (.slice (some ⟨g, 0, none⟩) em ec) := c4
      have HAP := Lib.hid hapart
      have HBO := Lib.hid hbo'
      have hecp : 0 < ec := by omega
      clear hbo hbo' c4 hs hdis hte hapart
      go_wp2_with fail
      refine (over_n base g ec em l wr HBO.out (by omega)).mono ?_
      rintro e w2 ⟨rfl, hov, hg⟩
      have hr2 := HR.out.grownNe hg (by omega)
      have ho2 : SOwn w2 base (some ⟨gE, 0, none⟩) n cE Es := Own.grownNe HO.out hg (fun q hc hq hr => by
        injection hr with hr; subst hr
        exact own_ne (hq ▸ HO.out : Own wr base 22 1 (some ⟨g, 0, none⟩) n cE (Es.map Sl.val)) HBO.out hc hecp (by decide) rfl)
      have hf2 : SOwn w2 base (some ⟨gF, 0, none⟩) (n + 70) cF Fs := Own.grownNe HFF.out hg (fun q hc hq hr => by
        injection hr with hr; subst hr
        exact own_ne (hq ▸ HFF.out : Own wr base 22 1 (some ⟨g, 0, none⟩) (n + 70) cF (Fs.map Sl.val)) HBO.out hc hecp (by decide) rfl)
      have hall2 : ∀ j (h : j < Es.length), ∃ l, BOwn w2 base (Es[j]).a (Es[j]).n (Es[j]).c l ∧ 0 < l.length ∧ l.length ≤ 4000000100 := fun j hj => by
        obtain ⟨l', h1, h2, h3⟩ := HALL.out j hj
        by_cases hji : j = i
        · refine ⟨over em, ?_, by rw [over_length]; omega, by rw [over_length]; omega⟩
          subst hji
          have hsj : Es[j] = ⟨some ⟨g, 0, none⟩, em, ec⟩ := by
            have h5 := sown_cell HO.out j (Es[j]) (List.getElem?_eq_getElem hj)
            obtain ⟨g5, e5, c5, _⟩ := h5
            injection e5 with e5; injection e5 with e5
            subst e5
            rw [hc4] at c5
            injection c5 with c5
            injection c5 with c5 c6 c7
            cases hEj : Es[j] with
            | mk x y z => rw [hEj] at c5 c6 c7; simp only at c5 c6 c7; rw [← c5, ← c6, ← c7]
          rw [hsj]
          exact hov
        · refine ⟨l', Own.grownNe h1 hg (fun q hc hq hr => ?_), h2, h3⟩
          injection hr with hr; subst hr
          have hbj : (Es[j]).blk = some g := by
            unfold Sl.blk
            rw [if_neg (by omega), hq]
            rfl
          refine HAP.out j hj hji g hbj ?_
          unfold Sl.blk
          rw [if_neg (by show ¬ ec = 0; omega)]
          rfl
      have hch2 := HCH.out.trans (Ch.ofSome (S := fun k => base ≤ k ∧ k < top) hg ⟨hg1, hgt⟩) (fun _ _ h => h)
      replace HR := Lib.hid hr2
      replace HO := Lib.hid ho2
      replace HFF := Lib.hid hf2
      replace HALL := Lib.hid hall2
      replace HCH := Lib.hid hch2
      clear hov hg hr2 ho2 hf2 hall2 hch2 c1 c2 hc4 HBO HAP
      go_wp2_with fail
      go_roundw
      case rel => exact ⟨i + 1, by omega, by go_num, HR.out, HO.out, HFF.out, HALL.out, HCH.out⟩
      case measure => simp [intOf]; omega
    · obtain rfl : i = n := by omega
      go_wp2_with fail
      go_loopw [3] (fun vj wr2 => ∃ (j : Nat) (Lc : List Sl), j ≤ i + 70 ∧ vj = .int .i64 j ∧ Row wr2 b1 88 #[.slice (some ⟨gF, 0, none⟩) i cF, .slice (some ⟨gF, 0, none⟩) (i + 70) cF, .slice aE i cE] ∧ SOwn wr2 base (some ⟨gF, 0, none⟩) (i + 70) cF Lc ∧ (∀ k (h : k < Lc.length), k < j → BOwn wr2 base (Lc[k]).a 3 (Lc[k]).c [1, 2, 3] ∧ (Lc[k]).n = 3) ∧ Ch (fun g => base ≤ g ∧ g < top) w wr2) (fun vj _ => i + 70 - (intOf vj).toNat)
      case atStart => exact ⟨0, Fs, by omega, rfl, HR.out, HFF.out, fun k _ h => absurd h (by omega), HCH.out⟩
      case round =>
        obtain ⟨j, Lc, hj, rfl, hr, hf, hall, hch⟩ := hrel
        clear c1 c2
        replace HR := Lib.hid hr
        replace HFF := Lib.hid hf
        have HALC := Lib.hid hall
        replace HCH := Lib.hid hch
        have c1 := Row.cell HR.out 1
        simp at c1
        have hLl : Lc.length = i + 70 := SOwn.len hf
        have HLL := Lib.hid hLl
        clear hr hf hall hch hLl
        by_cases hlt2 : j < i + 70
        · have ha := World.grownBy_alloc wr (.cells #[.int .u8 1, .int .u8 2, .int .u8 3] 5) none
          obtain ⟨w3, hw3⟩ : ∃ w3, w3 = wr.alloc (.cells #[.int .u8 1, .int .u8 2, .int .u8 3] 5) := ⟨_, rfl⟩
          have hf3 : SOwn w3 base (some ⟨gF, 0, none⟩) (i + 70) cF Lc := hw3 ▸ Own.ch HFF.out (Ch.ofNone ha (fun _ => False)) (fun _ _ _ h => h)
          obtain ⟨g', e', c5, f5⟩ := sown_cell hf3 j _ (List.getElem?_eq_getElem (by rw [HLL.out]; exact hlt2))
          injection e' with e'; injection e' with e'
          subst e'
          have hb2 : (j : Int) < ((i + 70 : Nat) : Int) := by omega
          have hb2' : (j : Int) < (i : Int) + 70 := by omega
          rw [hw3] at c5 f5
          go_wp2_with fail
          rw [← hw3]
          obtain ⟨w4, hw4⟩ : ∃ w4, w4 = w3.setCell ⟨gF, j, none⟩ (.slice (some ⟨wr.heap.size, 0, none⟩) 3 3) := ⟨_, rfl⟩
          rw [← hw4]
          have hg4 : w3.grownBy w4 (some gF) := hw4 ▸ grownBy_setCell _ _ _ _
          have ha3 : wr.grownBy w3 none := hw3 ▸ ha
          have hwr : w.heap.size ≤ wr.heap.size := HCH.out.size
          have hr4 := ((HR.out.grown ha3).grownNe hg4 (by omega))
          have hf4 : SOwn w4 base (some ⟨gF, 0, none⟩) (i + 70) cF (Lc.set j ⟨some ⟨wr.heap.size, 0, none⟩, 3, 3⟩) := by
            have h1 := Own.set hf3 j (by rw [List.length_map, HLL.out]; exact hlt2) (.slice (some ⟨wr.heap.size, 0, none⟩) 3 3)
            unfold SOwn
            rw [List.map_set, hw4]
            exact h1
          have keep : ∀ (a' : Option Addr) (n' c' : Nat) (l : List UInt8), BOwn w3 base a' n' c' l → BOwn w4 base a' n' c' l := fun a' n' c' l h => Own.grownNe h hg4 (fun q hc hq hr => by
            injection hr with hr; subst hr
            exact own_ne (hq ▸ h : Own w3 base 5 1 (some ⟨gF, 0, none⟩) n' c' (l.map bval)) hf3 hc (by have := (Own.cap hf3).1; omega) (by decide) rfl)
          have hnew : BOwn w3 base (some ⟨wr.heap.size, 0, none⟩) 3 3 [1, 2, 3] := by
            have hb : BRow w3 wr.heap.size 5 [1, 2, 3] := by rw [hw3]; exact heap_alloc_new wr _
            exact BRow.own hb (by omega) 3 rfl (by decide)
          have hall4 : ∀ k (h : k < (Lc.set j ⟨some ⟨wr.heap.size, 0, none⟩, 3, 3⟩).length), k < j + 1 → BOwn w4 base ((Lc.set j ⟨some ⟨wr.heap.size, 0, none⟩, 3, 3⟩)[k]).a 3 ((Lc.set j ⟨some ⟨wr.heap.size, 0, none⟩, 3, 3⟩)[k]).c [1, 2, 3] ∧ ((Lc.set j ⟨some ⟨wr.heap.size, 0, none⟩, 3, 3⟩)[k]).n = 3 := by
            intro k hk hkj
            rw [List.length_set] at hk
            by_cases hjk : j = k
            · subst hjk
              rw [List.getElem_set_self]
              exact ⟨keep _ _ _ _ hnew, rfl⟩
            · rw [List.getElem_set_ne hjk]
              obtain ⟨h1, h2⟩ := HALC.out k hk (by omega)
              exact ⟨keep _ _ _ _ (Own.ch h1 (Ch.ofNone ha3 (fun _ => False)) (fun _ _ _ h => h)), h2⟩
          have hch4 := (HCH.out.then ha3).trans (Ch.ofSome (S := fun k => base ≤ k ∧ k < top) hg4 ⟨hgb, htF⟩) (fun _ _ h => h)
          have HR4 := Lib.hid hr4
          have HF4 := Lib.hid hf4
          have HA4 := Lib.hid hall4
          have HC4 := Lib.hid hch4
          clear ha hw3 hf3 c5 f5 hw4 hg4 ha3 hr4 hf4 keep hnew hall4 hch4 c1 HR HFF HALC HCH hwr
          go_roundw
          case rel => exact ⟨j + 1, _, by omega, by go_num, HR4.out, HF4.out, HA4.out, HC4.out⟩
          case measure => simp [intOf]; omega
        · obtain rfl : j = i + 70 := by omega
          have hlies : LLies wr (some ⟨gF, 0, none⟩) (Lc.take i) (List.replicate i [1, 2, 3]) := by
            refine ⟨fun k hk => ?_, by rw [List.length_take, HLL.out, List.length_replicate]; omega, fun k hk hk' => ?_⟩
            · rw [List.length_map, List.length_take, HLL.out] at hk
              have hkl : k < Lc.length := by rw [HLL.out]; omega
              obtain ⟨g', e', c5, _⟩ := sown_cell HFF.out k _ (List.getElem?_eq_getElem hkl)
              refine ⟨g', 0, e', ?_⟩
              rw [Nat.zero_add, c5]
              simp [Sl.val, List.getElem_take]
            · rw [List.length_take, HLL.out] at hk
              obtain ⟨h1, h2⟩ := HALC.out k (by rw [HLL.out]; omega) (by omega)
              rw [List.getElem_take, List.getElem_replicate]
              exact ⟨BOwn.lies h1, h2⟩
          have HLI := Lib.hid hlies
          clear hlies
          go_wp2_with fail
          go_end0
          exact ⟨rfl, ⟨_, HLI.out⟩, HCH.out⟩

end Go.Proofs.Ythemlaibjchjpaa
/- strongroomkit.ApartBytes. -/
namespace Go.Proofs.Ythemlaibjchjpaa
open Go.RowKit

set_option maxRecDepth 100000 in
set_option maxHeartbeats 1000000 in
theorem apart_any (base : Nat) (als : Option Addr) (cls : Nat) (L : List Sl) (w : World) (hs : St1 base als cls L w 0 0 w) (hb : base ≤ w.heap.size) (hd : Distinct L) (hK : L.length ≤ 100000000) (hN : ∀ j (hj : j < L.length), (L[j]).n ≤ 100000000) :
    Calls Try.prog 21 #[.slice als L.length cls] w fun e w' => e = .returned (.bool true) ∧ Below base w w' := by
  have HD : Hid (Distinct L) := hd
  have HN : Hid (∀ j (hj : j < L.length), (L[j]).n ≤ 100000000) := hN
  clear hd hN
  go_enter Try.func21, Try.ntmps21
  go_wp2_with fail
  go_loopw [3] (fun i wr => ∃ k : Nat, k ≤ L.length ∧ i = .int .i64 k ∧ St1 base als cls L w k 0 wr) (fun i _ => L.length - (intOf i).toNat)
  case atStart => exact ⟨0, by omega, rfl, hs⟩
  case round =>
    obtain ⟨k, hk, rfl, hst⟩ := hrel
    by_cases hlt : k < L.length
    · go_wp2_with fail
      obtain ⟨wo, rfl⟩ : ∃ wo : World, wo = wr := ⟨_, rfl⟩
      go_loopw [4] (fun i wr => ∃ j : Nat, j ≤ (L[k]).n ∧ i = .int .i64 j ∧ St1 base als cls L w k j wr) (fun i _ => (L[k]).n - (intOf i).toNat)
      case atStart => exact ⟨0, by omega, rfl, hst⟩
      case round =>
        obtain ⟨j, hj, rfl, hst⟩ := hrel
        have HST : Hid (St1 base als cls L w k j wr) := hst
        clear hst
        obtain ⟨gs, rfl, _, _, hcs, _⟩ := Own.cell HST.out.outer k (by simpa using hlt)
        have hcs' : wr.cell? ⟨gs, k, none⟩ = some (.slice (L[k]).a (L[k]).n (L[k]).c) := by rw [hcs]; simp [Sl.val]
        clear hcs
        have hn := HN.out k hlt
        by_cases hjt : j < (L[k]).n
        · obtain ⟨g, ha, ⟨u, hu⟩, hf, hst'⟩ := HST.out.store HD.out hlt hjt
          rw [ha] at hcs'
          have HA : Hid ((L[k]).a = some ⟨g, 0, none⟩) := ha
          clear ha
          go_wp2_with fail
          have hw1 : IntKind.i64.wrap ((k : Int) + 1) = (k : Int) + 1 := IntWalk.i64_in _ (by omega)
          refine wp_region_still_tail 10 (by kernel_rfl) (by kernel_rfl) ?_
          simp only [List.take_succ_cons, List.take_zero, List.drop_succ_cons, List.drop_zero]
          repeat still_step
          still_call ((mark_any _ _ _ (by omega) (by omega)).mono fun e w' ⟨he, hw⟩ => ⟨he, hw.symm⟩)
          repeat still_step
          refine wpStill_nil ?_
          change wpList _ _ _ _ _ wr.drew
          go_wp2
          go_roundw
          case rel => exact ⟨j + 1, by omega, by go_num, hst'.drew⟩
          case measure => simp [intOf]; omega
        · obtain rfl : j = (L[k]).n := by omega
          go_wp2_with fail
          go_roundw
          case rel => exact ⟨k + 1, by omega, by go_num, HST.out.next hlt rfl⟩
          case measure => simp [intOf]; omega
    · obtain rfl : k = L.length := by omega
      obtain ⟨wk, rfl⟩ : ∃ wk : World, wk = wr := ⟨_, rfl⟩
      have HS2 : Hid (St2 base als cls L w wk.heap.size 0 none 0 [] wk) := St2.start hst hb
      clear hst
      go_wp2_with fail
      go_loopw [5, 6] (fun v i wr => ∃ (k : Nat) (ags : Option Addr) (cgs : Nat) (G : List Sl), k ≤ L.length ∧ i = .int .i64 k ∧ v = .slice ags k cgs ∧ St2 base als cls L w wk.heap.size k ags cgs G wr) (fun _ i _ => L.length - (intOf i).toNat)
      case atStart => exact ⟨0, none, 0, [], by omega, rfl, rfl, HS2.out⟩
      case round =>
        obtain ⟨k, ags, cgs, G, hk, rfl, rfl, hst⟩ := hrel
        have HST : Hid (St2 base als cls L w wk.heap.size k ags cgs G wr) := hst
        clear hst
        by_cases hlt : k < L.length
        · obtain ⟨gs, e1, _, _, hcs, _⟩ := Own.cell HST.out.outer k (by simpa using hlt)
          have hcs' : wr.cell? ⟨gs, k, none⟩ = some (.slice (L[k]).a (L[k]).n (L[k]).c) := by rw [hcs]; simp [Sl.val]
          clear hcs
          obtain rfl := e1
          go_wp2_with fail
          obtain ⟨wo, rfl⟩ : ∃ wo : World, wo = wr := ⟨_, rfl⟩
          go_loopw [7, 8] (fun v i wr => ∃ (m : Nat) (a : Option Addr) (c : Nat), m ≤ 70 ∧ i = .int .i64 m ∧ v = .slice a ((L[k]).n + m) c ∧ In2 base L k hlt wo m a c wr) (fun _ i _ => 70 - (intOf i).toNat)
          case atStart => exact ⟨0, _, _, by omega, rfl, rfl, In2.start HST.out hlt⟩
          case round =>
            obtain ⟨m, a, c, hm, rfl, rfl, hin⟩ := hrel
            have HIN : Hid (In2 base L k hlt wo m a c wr) := hin
            clear hin
            obtain ⟨gs2, e1, _, _, hcs, _⟩ := Own.cell (HST.out.outerIn hlt HIN.out.frame) k (by simpa using hlt)
            obtain rfl : gs = gs2 := by simpa using e1
            clear e1
            have hcs2 : wr.cell? ⟨gs, k, none⟩ = some (.slice (L[k]).a (L[k]).n (L[k]).c) := by rw [hcs]; simp [Sl.val]
            clear hcs
            have hn := HN.out k hlt
            have hsz : base ≤ wr.heap.size := Nat.le_trans HST.out.baseB (Nat.le_trans HST.out.size HIN.out.frame.size)
            by_cases hm70 : m < 70
            · go_wp2_with (first | (go_at_call 59; refine (mark_any _ _ _ (by omega) (by omega)).mono ?_; rintro e w' ⟨rfl, rfl⟩) | (at_builtin; refine wpList_push elB rfl (.tmp 51) (.tmp 62) rfl rfl HIN.out.row (.int .u8 ((mrk ((k : Int) + 1) (((L[k]).n : Int) + (m : Int))).toNat : Int)) rfl rfl (by unfold maxLen; omega) (by omega) hsz ?_; intro g cap w1 hown1 hgr))
              go_roundw
              case rel => exact ⟨m + 1, _, _, by omega, by go_num, rfl, HIN.out.next hown1 hgr⟩
              case measure => simp [intOf]; omega
            · obtain rfl : m = 70 := by omega
              have hgs : SOwn wr wk.heap.size ags k cgs G := Own.grownNe HST.out.gs HIN.out.frame fun g1 hc1 ha1 hb1 => by
                obtain ⟨hc2, ha2⟩ := (HST.out.lists k hlt).blk hb1
                have h3 := HST.out.gs
                have h4 := HST.out.lists k hlt
                rw [ha1] at h3
                rw [ha2] at h4
                exact own_ne h3 h4 hc1 hc2 (by decide) rfl
              have hszB : wk.heap.size ≤ wr.heap.size := Nat.le_trans HST.out.size HIN.out.frame.size
              go_wp2_with (at_builtin; refine wpList_push elS rfl (.tmp 64) (.tmp 66) rfl rfl hgs (.slice a ((L[k]).n + 70) c) rfl rfl (by unfold maxLen; omega) (by omega) hszB ?_; intro g cap w1 hown1 hgr)
              go_roundw
              case rel => exact ⟨k + 1, _, _, _, by omega, by go_num, rfl, HST.out.next hlt HD.out HIN.out hown1 hgr⟩
              case measure => simp [intOf]; omega
        · obtain rfl : k = L.length := by omega
          obtain ⟨w3, rfl⟩ : ∃ w3 : World, w3 = wr := ⟨_, rfl⟩
          go_wp2_with fail
          go_loopw [9] (fun i wr => ∃ k n : Nat, k ≤ L.length ∧ i = .int .i64 k ∧ wr = w3.drewN n) (fun i _ => L.length - (intOf i).toNat)
          case atStart => exact ⟨0, 0, by omega, rfl, rfl⟩
          case round =>
            obtain ⟨k, n, hk, rfl, rfl⟩ := hrel
            by_cases hlt : k < L.length
            · obtain ⟨gl, gg, h, c, rfl, rfl, c1, c2, c3, c4⟩ := HST.out.look k hlt
              have C3 := Lib.hid c3
              have C4 := Lib.hid c4
              clear c3 c4
              have hn := HN.out k hlt
              go_wp2_with fail
              go_loopw [10] (fun i wr => ∃ j m : Nat, j ≤ (L[k]).n + 70 ∧ i = .int .i64 j ∧ wr = w3.drewN m) (fun i _ => (L[k]).n + 70 - (intOf i).toNat)
              case atStart => exact ⟨0, n, by omega, rfl, rfl⟩
              case round =>
                obtain ⟨j, m, hj, rfl, rfl⟩ := hrel
                by_cases hjt : j < (L[k]).n + 70
                · have c3 := C3.out j hjt
                  by_cases hjn : j < (L[k]).n
                  · obtain ⟨g, ha, c4⟩ := C4.out j hjn
                    rw [ha] at c1
                    have HA := Lib.hid ha
                    clear ha
                    go_wp2_with (go_at_call 59; refine (mark_any _ _ _ (by omega) (by omega)).mono ?_; rintro e w' ⟨rfl, rfl⟩)
                    go_roundw
                    case rel => exact ⟨j + 1, m, by omega, by go_num, rfl⟩
                    case measure => simp [intOf]; omega
                  · have hjd : decide ((j : Int) < ((L[k]).n : Int)) = false := by rw [decide_eq_false_iff_not]; omega
                    go_wp2_with (go_at_call 59; refine (mark_any _ _ _ (by omega) (by omega)).mono ?_; rintro e w' ⟨rfl, rfl⟩)
                    go_roundw
                    case rel => exact ⟨j + 1, m, by omega, by go_num, rfl⟩
                    case measure => simp [intOf]; omega
                · obtain rfl : j = (L[k]).n + 70 := by omega
                  go_wp2_with fail
                  go_roundw
                  case rel => exact ⟨k + 1, m, by omega, by go_num, rfl⟩
                  case measure => simp [intOf]; omega
            · obtain rfl : k = L.length := by omega
              go_wp2_with fail
              go_ret
              exact ⟨rfl, HST.out.below.trans ⟨rfl, rfl, rfl, Nat.le_refl _, fun _ _ => rfl⟩⟩

theorem apart_n (base : Nat) (als : Option Addr) (cls n : Nat) (L : List Sl) (w : World) (hs : St1 base als cls L w 0 0 w) (hb : base ≤ w.heap.size) (hd : Distinct L) (hn : L.length = n) (hK : n ≤ 100000000) (hN : ∀ j (hj : j < L.length), (L[j]).n ≤ 100000000) :
    Calls Try.prog 21 #[.slice als n cls] w fun e w' => e = .returned (.bool true) ∧ Below base w w' := by
  subst hn
  exact apart_any base als cls L w hs hb hd hK hN

end Go.Proofs.Ythemlaibjchjpaa
/- ApartBytes of a literal list of lists. No walk. -/
namespace Go.Proofs.Ythemlaibjchjpaa
open Go.RowKit

theorem own_lit (w : World) (e : TypeId) (xs : List Value) (n : Nat) (hn : xs.length = n) (hm : n ≤ maxLen) : Own (w.alloc (.cells xs.toArray e)) w.heap.size e 1 (some ⟨w.heap.size, 0, none⟩) n n xs := by
  subst hn
  exact ⟨by simp, .inr ⟨w.heap.size, _, rfl, Nat.le_refl _, heap_alloc_new w _, Nat.le_refl _, hm, by simp, by simp⟩⟩

/-- between which numbers a slice's block lies -/
def Sl.within (s : Sl) (lo hi : Nat) : Prop := ∀ g, s.blk = some g → lo ≤ g ∧ g < hi
theorem BOwn.within {w : World} {base : Nat} {a : Option Addr} {n c : Nat} {l : List UInt8} (h : BOwn w base a n c l) : (⟨a, n, c⟩ : Sl).within base w.heap.size := by
  intro g hg
  have h' : BOwn w base (⟨a, n, c⟩ : Sl).a (⟨a, n, c⟩ : Sl).n (⟨a, n, c⟩ : Sl).c l := h
  obtain ⟨hc, ha⟩ := h'.blk hg
  obtain ⟨g', e, h1, h2⟩ := Own.block h hc
  rw [show a = some ⟨g, 0, none⟩ from ha] at e
  injection e with e; injection e with e
  subst e
  exact ⟨h1, h2⟩

theorem distinct_of (L : List Sl) (b : Nat → Nat) (hb : ∀ i, i < L.length → b i ≤ b (i + 1)) (h : ∀ i (hi : i < L.length), (L[i]).within (b i) (b (i + 1))) : Distinct L := by
  have mono : ∀ i j, i ≤ j → j ≤ L.length → b i ≤ b j := by
    intro i j hij
    induction j with
    | zero => intro _; have : i = 0 := by omega
              subst this; exact Nat.le_refl _
    | succ j ih =>
      intro hj
      by_cases e : i = j + 1
      · subst e; exact Nat.le_refl _
      · exact Nat.le_trans (ih (by omega) (by omega)) (hb j (by omega))
  intro i j hi hj hne g hgi hgj
  have h1 := h i hi g hgi
  have h2 := h j hj g hgj
  rcases Nat.lt_or_gt_of_ne hne with hlt | hlt
  · have := mono (i + 1) j (by omega) (by omega); omega
  · have := mono (j + 1) i (by omega) (by omega); omega

theorem st1_lit {w : World} {base : Nat} {L : List Sl} (h : ∀ j (hj : j < L.length), ∃ l, BOwn w base (L[j]).a (L[j]).n (L[j]).c l) (hb : base ≤ w.heap.size) (n : Nat) (hn : L.length = n) (hm : n ≤ maxLen) :
    St1 base (some ⟨w.heap.size, 0, none⟩) n L (w.alloc (.cells (L.map Sl.val).toArray 22)) 0 0 (w.alloc (.cells (L.map Sl.val).toArray 22)) := by
  subst hn
  refine ⟨(own_lit w _ _ _ (by simp) hm).mono hb, fun j hj => ?_, Below.refl _ _⟩
  obtain ⟨l, ho⟩ := h j hj
  exact ⟨l, Own.grownNone ho (World.grownBy_alloc w _ none), fun h => absurd h (by omega), fun _ => by simp [mkl]⟩

theorem grown_below {w0 w w' : World} {base : Nat} (h : w0.grownBy w none) (hb : Below base w w') (hs : w0.heap.size ≤ base) : w0.grownBy w' none :=
  ⟨hb.os.trans h.os, hb.tape.trans h.tape, hb.output.trans h.output, Nat.le_trans h.size hb.size, fun k hk hr => (hb.block k (by omega)).trans (h.block k hk hr)⟩

end Go.Proofs.Ythemlaibjchjpaa
/- ApartBytes, with a stronger word: blocks that hold other things than bytes stay as they were. Printed by gens/apartt.py. -/
namespace Go.Proofs.Ythemlaibjchjpaa
open Go.RowKit

/-- block k holds other things than bytes -/
def NB (w : World) (k : Nat) : Prop := ∃ cs e fr, w.heap[k]? = some (.cells cs e fr) ∧ e ≠ 5
theorem NB.lt {w : World} {k : Nat} (h : NB w k) : k < w.heap.size := by
  obtain ⟨cs, e, fr, h1, _⟩ := h
  exact (Array.getElem?_eq_some_iff.1 h1).1
theorem BOwn.notNB {w : World} {base : Nat} {a : Option Addr} {n c g : Nat} {l : List UInt8} (h : BOwn w base a n c l) (hc : 0 < c) (ha : a = some ⟨g, 0, none⟩) (hn : NB w g) : False := by
  obtain ⟨cs, e, fr, h1, h2⟩ := hn
  rcases h.2 with ⟨_, h0⟩ | ⟨g', cur, ha', hb, hh, _⟩
  · omega
  · rw [ha] at ha'
    injection ha' with ha'; injection ha' with ha'
    subst ha'
    rw [hh] at h1
    injection h1 with h1
    injection h1 with _ h3 _
    exact h2 h3.symm
/-- block k holds other things than bytes, or is none of these lists' -/
def Off (L : List Sl) (w : World) (k : Nat) : Prop := NB w k ∨ (k < w.heap.size ∧ ∀ j (hj : j < L.length), (L[j]).blk ≠ some k)
theorem Off.lt {L : List Sl} {w : World} {k : Nat} (h : Off L w k) : k < w.heap.size := h.elim (fun h => h.lt) (fun h => h.1)
structure BelowT (base : Nat) (L : List Sl) (w w' : World) : Prop extends Below base w w' where
  off : ∀ k, Off L w k → w'.heap[k]? = w.heap[k]?
theorem BelowT.other {base : Nat} {L : List Sl} {w w' : World} (h : BelowT base L w w') (k : Nat) (hk : NB w k) : w'.heap[k]? = w.heap[k]? := h.off k (.inl hk)
theorem BelowT.refl (base : Nat) (L : List Sl) (w : World) : BelowT base L w w := ⟨Below.refl _ _, fun _ _ => rfl⟩
theorem BelowT.trans {base : Nat} {L : List Sl} {a b c : World} (h : BelowT base L a b) (k : BelowT base L b c) : BelowT base L a c :=
  ⟨h.toBelow.trans k.toBelow, fun i hi => (k.off i (by
    rcases hi with ⟨cs, e, fr, h1, h2⟩ | ⟨h1, h2⟩
    · exact .inl ⟨cs, e, fr, (h.off i (.inl ⟨cs, e, fr, h1, h2⟩)).trans h1, h2⟩
    · exact .inr ⟨Nat.lt_of_lt_of_le h1 h.toBelow.size, h2⟩)).trans (h.off i hi)⟩
theorem BelowT.drewN {base : Nat} {L : List Sl} {a b : World} (h : BelowT base L a b) (n : Nat) : BelowT base L a (b.drewN n) :=
  ⟨h.toBelow.trans ⟨rfl, rfl, rfl, Nat.le_refl _, fun _ _ => rfl⟩, h.off⟩
theorem BelowT.setCell {base : Nat} {L : List Sl} {a b : World} (h : BelowT base L a b) {g : Nat} (hb : base ≤ g) (hn : Off L b g → False) (i : Nat) (u : Value) : BelowT base L a (b.setCell ⟨g, i, none⟩ u) :=
  h.trans ⟨(Below.refl base b).setCell (p := ⟨g, i, none⟩) hb _, fun k hk => Below.heap_setCell _ _ _ _ (by rintro rfl; exact hn hk)⟩
theorem BelowT.grown {base : Nat} {L : List Sl} {a b c : World} {row : Option Nat} (h : BelowT base L a b) (hg : b.grownBy c row) (hB : base ≤ b.heap.size) (hr : ∀ k, row = some k → base ≤ k ∧ a.heap.size ≤ k) : BelowT base L a c :=
  ⟨h.toBelow.grown hg hB (fun k hk => (hr k hk).1), fun k hk => (hg.block k (Nat.lt_of_lt_of_le hk.lt h.toBelow.size) (fun e => by have := (hr k e.symm).2; have := hk.lt; omega)).trans (h.off k hk)⟩
/-- phase 1: the lists below k bear their marks, list k the first i of them -/
structure TSt1 (base : Nat) (als : Option Addr) (cls : Nat) (L : List Sl) (w : World) (k i : Nat) (wr : World) : Prop where
  outer : SOwn wr base als L.length cls L
  inner : ∀ j (hj : j < L.length), ∃ l, BOwn wr base (L[j]).a (L[j]).n (L[j]).c l ∧ (j < k → l = mkl j (L[j]).n) ∧ (j = k → l.take i = mkl k i)
  below : BelowT base L w wr

theorem TSt1.drewN {base : Nat} {als : Option Addr} {cls : Nat} {L : List Sl} {w : World} {k i : Nat} {wr : World} (h : TSt1 base als cls L w k i wr) (n : Nat) : TSt1 base als cls L w k i (wr.drewN n) :=
  ⟨h.outer, h.inner, h.below.drewN n⟩
theorem TSt1.drew {base : Nat} {als : Option Addr} {cls : Nat} {L : List Sl} {w : World} {k i : Nat} {wr : World} (h : TSt1 base als cls L w k i wr) : TSt1 base als cls L w k i wr.drew := h.drewN 1

theorem TSt1.next {base : Nat} {als : Option Addr} {cls : Nat} {L : List Sl} {w : World} {k i : Nat} {wr : World} (h : TSt1 base als cls L w k i wr) (hk : k < L.length) (hi : i = (L[k]).n) : TSt1 base als cls L w (k + 1) 0 wr := by
  refine ⟨h.outer, fun j hj => ?_, h.below⟩
  obtain ⟨l, ho, h1, h2⟩ := h.inner j hj
  refine ⟨l, ho, fun hjk => ?_, fun _ => by simp [mkl]⟩
  by_cases e : j = k
  · subst e
    have := h2 rfl
    rw [hi, List.take_of_length_le (by rw [ho.len]; omega)] at this
    exact this
  · exact h1 (by omega)

theorem TSt1.store {base : Nat} {als : Option Addr} {cls : Nat} {L : List Sl} {w : World} {k i : Nat} {wr : World} (h : TSt1 base als cls L w k i wr) (hd : Distinct L) (hk : k < L.length) (hi : i < (L[k]).n) :
    ∃ g, (L[k]).a = some ⟨g, 0, none⟩ ∧ (∃ u, wr.cell? ⟨g, i, none⟩ = some u) ∧ wr.frozen? ⟨g, i, none⟩ = false ∧ TSt1 base als cls L w k (i + 1) (wr.setCell ⟨g, i, none⟩ (.int .u8 ((mrk ((k : Int) + 1) (i : Int)).toNat : Int))) := by
  obtain ⟨l, ho, _, h2⟩ := h.inner k hk
  have hlen := ho.len
  obtain ⟨g, ha, hb, hlt, hc, hf⟩ := Own.cell ho i (by simp; omega)
  have hpos : 0 < (L[k]).c := by
    rcases ho.2 with ⟨h0, _⟩ | ⟨_, _, _, _, _, hn, _⟩ <;> omega
  have hblk : (L[k]).blk = some g := by simp [Sl.blk, Nat.ne_of_gt hpos, ha]
  refine ⟨g, ha, ⟨_, hc⟩, hf, ?_, fun j hj => ?_, h.below.setCell hb (fun hn => hn.elim (BOwn.notNB ho hpos ha) (fun h => h.2 k hk hblk)) _ _⟩
  · exact Own.setOther h.outer (by rw [ha] at ho; exact ho) hpos (by decide) _ _
  · by_cases e : j = k
    · subst e
      refine ⟨l.set i (mrk ((j : Int) + 1) (i : Int)), ?_, fun hj' => by omega, fun _ => ?_⟩
      · rw [ha] at ho ⊢
        have := Own.set ho i (by simp; omega) (.int .u8 ((mrk ((j : Int) + 1) (i : Int)).toNat : Int))
        unfold BOwn
        rw [List.map_set]
        exact this
      · rw [take_set_succ (by omega), h2 rfl, mkl_succ]
    · obtain ⟨lj, hoj, h1j, _⟩ := h.inner j hj
      refine ⟨lj, ?_, h1j, fun e' => absurd e' e⟩
      refine hoj.kept' fun hcj g' hg' _ => Below.heap_setCell _ _ _ _ ?_
      rintro rfl
      exact hd j k hj hk e g' (by simp [Sl.blk, Nat.ne_of_gt hcj, hg']) hblk

/-- phase 2: to the copies below k the marks behind their lists have been appended -/
structure TSt2 (base : Nat) (als : Option Addr) (cls : Nat) (L : List Sl) (w : World) (B : Nat) (k : Nat) (ags : Option Addr) (cgs : Nat) (G : List Sl) (wr : World) : Prop where
  outer : SOwn wr base als L.length cls L
  gs : SOwn wr B ags k cgs G
  lists : ∀ j (hj : j < L.length), BOwn wr base (L[j]).a (L[j]).n (L[j]).c (mkl j (L[j]).n)
  done : ∀ j (hj : j < L.length) (hG : j < G.length), (G[j]).n = (L[j]).n + 70 ∧ BOwn wr base (G[j]).a (G[j]).n (G[j]).c (mkl j ((L[j]).n + 70)) ∧ ∀ g, (G[j]).blk = some g → (L[j]).blk = some g ∨ B ≤ g
  below : BelowT base L w wr
  size : B ≤ wr.heap.size
  wB : w.heap.size ≤ B
  baseB : base ≤ B
  oldO : ∀ g, 0 < cls → als = some ⟨g, 0, none⟩ → g < B
  oldL : ∀ j (hj : j < L.length) g, (L[j]).blk = some g → g < B

theorem TSt2.start {base : Nat} {als : Option Addr} {cls : Nat} {L : List Sl} {w wr : World} (h : TSt1 base als cls L w L.length 0 wr) (hb : base ≤ w.heap.size) : TSt2 base als cls L w wr.heap.size 0 none 0 [] wr where
  outer := h.outer
  gs := Own.nil _ _ _ _ _
  lists := fun j hj => by
    obtain ⟨l, ho, h1, _⟩ := h.inner j hj
    rw [h1 hj] at ho
    exact ho
  done := fun j hj hG => absurd hG (by simp)
  below := h.below
  size := Nat.le_refl _
  wB := h.below.size
  baseB := Nat.le_trans hb h.below.size
  oldO := fun g hc ha => by
    obtain ⟨g', ha', _, hlt⟩ := Own.block h.outer hc
    rw [ha] at ha'
    injection ha' with ha'; injection ha' with ha'
    omega
  oldL := fun j hj g hg => by
    obtain ⟨l, ho, _, _⟩ := h.inner j hj
    obtain ⟨hc, ha⟩ := ho.blk hg
    obtain ⟨g', ha', _, hlt⟩ := Own.block ho hc
    rw [ha] at ha'
    injection ha' with ha'; injection ha' with ha'
    omega

theorem In2.startT {base : Nat} {als : Option Addr} {cls : Nat} {L : List Sl} {w : World} {B k : Nat} {ags : Option Addr} {cgs : Nat} {G : List Sl} {wr : World} (h : TSt2 base als cls L w B k ags cgs G wr) (hk : k < L.length) : In2 base L k hk wr 0 (L[k]).a (L[k]).c wr :=
  ⟨h.lists k hk, World.grownBy.refl _ _, fun g hc ha => .inl (Sl.blk_some hc ha), h.lists k hk⟩

theorem TSt2.outerIn {base : Nat} {als : Option Addr} {cls : Nat} {L : List Sl} {w : World} {B k : Nat} {ags : Option Addr} {cgs : Nat} {G : List Sl} {wk wr : World} (h : TSt2 base als cls L w B k ags cgs G wk) (hk : k < L.length) (hf : wk.grownBy wr (L[k]).blk) : SOwn wr base als L.length cls L := by
  refine Own.grownNe h.outer hf fun g1 hc1 ha1 hb1 => ?_
  obtain ⟨hc2, ha2⟩ := (h.lists k hk).blk hb1
  have h3 := h.outer
  have h4 := h.lists k hk
  rw [ha1] at h3
  rw [ha2] at h4
  exact own_ne h3 h4 hc1 hc2 (by decide) rfl

/-- the copy is laid among the others -/
theorem TSt2.next {base : Nat} {als : Option Addr} {cls : Nat} {L : List Sl} {w : World} {B k : Nat} {ags : Option Addr} {cgs : Nat} {G : List Sl} {wk wr w1 : World} (h : TSt2 base als cls L w B k ags cgs G wk) (hk : k < L.length) (hd : Distinct L) {a : Option Addr} {c : Nat} (h2 : In2 base L k hk wk 70 a c wr)
    {g cg : Nat} (ho : Own w1 B 22 1 (some ⟨g, 0, none⟩) (k + 1) cg (G.map Sl.val ++ [.slice a ((L[k]).n + 70) c])) (hg : GrewP wr w1 ags cgs (some ⟨g, 0, none⟩) cg) : TSt2 base als cls L w B (k + 1) (some ⟨g, 0, none⟩) cg (G ++ [⟨a, (L[k]).n + 70, c⟩]) w1 := by
  have hGl : G.length = k := h.gs.len
  have gs' : SOwn wr B ags k cgs G := by
    refine Own.grownNe h.gs h2.frame fun g1 hc1 ha1 hb1 => ?_
    obtain ⟨hc2, ha2⟩ := (h.lists k hk).blk hb1
    have h3 := h.gs
    have h4 := h.lists k hk
    rw [ha1] at h3
    rw [ha2] at h4
    exact own_ne h3 h4 hc1 hc2 (by decide) rfl
  have lists' : ∀ j (hj : j < L.length), BOwn wr base (L[j]).a (L[j]).n (L[j]).c (mkl j (L[j]).n) := by
    intro j hj
    by_cases e : j = k
    · subst e; exact h2.list
    · exact Own.grownNe (h.lists j hj) h2.frame fun g1 hc1 ha1 hb1 => hd j k hj hk e g1 (Sl.blk_some hc1 ha1) hb1
  refine ⟨?_, by unfold SOwn; rw [List.map_append]; exact ho, fun j hj => Own.grewOther (lists' j hj) gs' hg (by decide), fun j hj hG => ?_, ?_, ?_, ?_, h.baseB, h.oldO, h.oldL⟩
  · have o1 := h.outerIn hk h2.frame
    rcases hg with ⟨g1, e1, rfl, hc, hcc, hg⟩ | ⟨g1, e1, hs, hg⟩
    · refine Own.grownNe o1 hg fun g2 hc2 ha2 e2 => ?_
      injection e2 with e2
      subst e2
      have := h.oldO _ hc2 ha2
      obtain ⟨g3, e3, hb3, _⟩ := Own.block gs' hc
      rw [e1] at e3
      injection e3 with e3; injection e3 with e3
      omega
    · exact Own.grownNone o1 hg
  · by_cases e : j = k
    · subst e
      have eG : (G ++ [(⟨a, (L[j]).n + 70, c⟩ : Sl)])[j] = ⟨a, (L[j]).n + 70, c⟩ := by
        rw [List.getElem_append_right (by omega)]; simp [hGl]
      rw [eG]
      refine ⟨rfl, Own.grewOther h2.row gs' hg (by decide), fun g1 hb1 => ?_⟩
      have hb2 : c ≠ 0 ∧ ∃ x, a = some x ∧ x.block = g1 := by
        simp only [Sl.blk] at hb1
        split at hb1
        · cases hb1
        · rename_i hc
          exact ⟨hc, by simpa [Option.map_eq_some_iff] using hb1⟩
      obtain ⟨hc, x, rfl, rfl⟩ := hb2
      obtain ⟨g3, e3, _, _⟩ := Own.block h2.row (by omega)
      injection e3 with e3
      subst e3
      rcases h2.place g3 (by omega) rfl with hp | hp
      · exact .inl hp
      · exact .inr (Nat.le_trans h.size hp)
    · have hjk : j < k := by simp at hG; omega
      have eG : (G ++ [(⟨a, (L[k]).n + 70, c⟩ : Sl)])[j] = G[j]'(by omega) := List.getElem_append_left (by omega)
      rw [eG]
      obtain ⟨e1, e2, e3⟩ := h.done j hj (by omega)
      refine ⟨e1, Own.grewOther (Own.grownNe e2 h2.frame fun g1 hc1 ha1 hb1 => ?_) gs' hg (by decide), e3⟩
      rcases e3 g1 (Sl.blk_some hc1 ha1) with h5 | h5
      · exact hd j k hj hk e g1 h5 hb1
      · have := h.oldL k hk g1 hb1
        omega
  · have f1 : BelowT base L wk wr := by
      refine ⟨⟨h2.frame.os, h2.frame.tape, h2.frame.output, h2.frame.size, fun b hb => h2.frame.block b (by have := h.size; have := h.baseB; omega) fun e => ?_⟩, fun b hb => h2.frame.block b hb.lt fun e => ?_⟩
      · obtain ⟨hc2, ha2⟩ := (h.lists k hk).blk e.symm
        obtain ⟨g3, e3, hb3, _⟩ := Own.block (h.lists k hk) hc2
        rw [ha2] at e3
        injection e3 with e3; injection e3 with e3
        omega
      · obtain ⟨hc2, ha2⟩ := (h.lists k hk).blk e.symm
        exact hb.elim (BOwn.notNB (h.lists k hk) hc2 ha2) (fun h => h.2 k hk e.symm)
    have f2 := h.below.trans f1
    have hs := h.size
    have hbB := h.baseB
    have hwB := h.wB
    have hfs := h2.frame.size
    rcases hg with ⟨g1, e1, rfl, hc, hcc, hg⟩ | ⟨g1, e1, hs1, hg⟩
    · obtain ⟨g3, e3, hb3, _⟩ := Own.block gs' hc
      rw [e1] at e3
      injection e3 with e3; injection e3 with e3
      exact f2.grown hg (by omega) (fun b hb => by injection hb with hb; omega)
    · exact f2.grown hg (by omega) (fun b hb => by cases hb)
  · have := h.size
    have := h2.frame.size
    have := hg.grew.size
    omega
  · exact h.wB

/-- phase 3: what is looked at -/
theorem TSt2.look {base : Nat} {als : Option Addr} {cls : Nat} {L : List Sl} {w : World} {B : Nat} {ags : Option Addr} {cgs : Nat} {G : List Sl} {wr : World} (h : TSt2 base als cls L w B L.length ags cgs G wr) (k : Nat) (hk : k < L.length) :
    ∃ gl gg h c, als = some ⟨gl, 0, none⟩ ∧ ags = some ⟨gg, 0, none⟩ ∧ wr.cell? ⟨gl, k, none⟩ = some (.slice (L[k]).a (L[k]).n (L[k]).c) ∧ wr.cell? ⟨gg, k, none⟩ = some (.slice (some ⟨h, 0, none⟩) ((L[k]).n + 70) c) ∧
      (∀ i, i < (L[k]).n + 70 → wr.cell? ⟨h, i, none⟩ = some (.int .u8 ((mrk ((k : Int) + 1) (i : Int)).toNat : Int))) ∧
      (∀ i, i < (L[k]).n → ∃ g, (L[k]).a = some ⟨g, 0, none⟩ ∧ wr.cell? ⟨g, i, none⟩ = some (.int .u8 ((mrk ((k : Int) + 1) (i : Int)).toNat : Int))) := by
  obtain ⟨gl, e1, _, _, c1, _⟩ := Own.cell h.outer k (by simpa using hk)
  obtain ⟨gg, e2, _, _, c2, _⟩ := Own.cell h.gs k (by simpa [h.gs.len] using hk)
  have hG : k < G.length := by rw [h.gs.len]; exact hk
  obtain ⟨d1, d2, _⟩ := h.done k hk hG
  obtain ⟨hh, e3, _, _, _, _⟩ := Own.cell d2 0 (by simp [mkl_length])
  refine ⟨gl, gg, hh, (G[k]).c, e1, e2, by rw [c1]; simp [Sl.val], by rw [c2]; simp [Sl.val, e3, d1], fun i hi => ?_, fun i hi => ?_⟩
  · obtain ⟨h', e4, _, _, c4, _⟩ := Own.cell d2 i (by simp [mkl_length]; omega)
    rw [e3] at e4
    injection e4 with e4; injection e4 with e4
    subst e4
    rw [c4]
    simp [bval, mkl]
  · obtain ⟨g, e4, _, _, c4, _⟩ := Own.cell (h.lists k hk) i (by simp [mkl_length]; omega)
    exact ⟨g, e4, by rw [c4]; simp [bval, mkl]⟩

set_option maxRecDepth 100000 in
set_option maxHeartbeats 1000000 in
theorem apartT_any (base : Nat) (als : Option Addr) (cls : Nat) (L : List Sl) (w : World) (hs : TSt1 base als cls L w 0 0 w) (hb : base ≤ w.heap.size) (hd : Distinct L) (hK : L.length ≤ 100000000) (hN : ∀ j (hj : j < L.length), (L[j]).n ≤ 100000000) :
    Calls Try.prog 21 #[.slice als L.length cls] w fun e w' => e = .returned (.bool true) ∧ BelowT base L w w' := by
  have HD : Hid (Distinct L) := hd
  have HN : Hid (∀ j (hj : j < L.length), (L[j]).n ≤ 100000000) := hN
  clear hd hN
  go_enter Try.func21, Try.ntmps21
  go_wp2_with fail
  go_loopw [3] (fun i wr => ∃ k : Nat, k ≤ L.length ∧ i = .int .i64 k ∧ TSt1 base als cls L w k 0 wr) (fun i _ => L.length - (intOf i).toNat)
  case atStart => exact ⟨0, by omega, rfl, hs⟩
  case round =>
    obtain ⟨k, hk, rfl, hst⟩ := hrel
    by_cases hlt : k < L.length
    · go_wp2_with fail
      obtain ⟨wo, rfl⟩ : ∃ wo : World, wo = wr := ⟨_, rfl⟩
      go_loopw [4] (fun i wr => ∃ j : Nat, j ≤ (L[k]).n ∧ i = .int .i64 j ∧ TSt1 base als cls L w k j wr) (fun i _ => (L[k]).n - (intOf i).toNat)
      case atStart => exact ⟨0, by omega, rfl, hst⟩
      case round =>
        obtain ⟨j, hj, rfl, hst⟩ := hrel
        have HST : Hid (TSt1 base als cls L w k j wr) := hst
        clear hst
        obtain ⟨gs, rfl, _, _, hcs, _⟩ := Own.cell HST.out.outer k (by simpa using hlt)
        have hcs' : wr.cell? ⟨gs, k, none⟩ = some (.slice (L[k]).a (L[k]).n (L[k]).c) := by rw [hcs]; simp [Sl.val]
        clear hcs
        have hn := HN.out k hlt
        by_cases hjt : j < (L[k]).n
        · obtain ⟨g, ha, ⟨u, hu⟩, hf, hst'⟩ := HST.out.store HD.out hlt hjt
          rw [ha] at hcs'
          have HA : Hid ((L[k]).a = some ⟨g, 0, none⟩) := ha
          clear ha
          go_wp2_with fail
          have hw1 : IntKind.i64.wrap ((k : Int) + 1) = (k : Int) + 1 := IntWalk.i64_in _ (by omega)
          refine wp_region_still_tail 10 (by kernel_rfl) (by kernel_rfl) ?_
          simp only [List.take_succ_cons, List.take_zero, List.drop_succ_cons, List.drop_zero]
          repeat still_step
          still_call ((mark_any _ _ _ (by omega) (by omega)).mono fun e w' ⟨he, hw⟩ => ⟨he, hw.symm⟩)
          repeat still_step
          refine wpStill_nil ?_
          change wpList _ _ _ _ _ wr.drew
          go_wp2
          go_roundw
          case rel => exact ⟨j + 1, by omega, by go_num, hst'.drew⟩
          case measure => simp [intOf]; omega
        · obtain rfl : j = (L[k]).n := by omega
          go_wp2_with fail
          go_roundw
          case rel => exact ⟨k + 1, by omega, by go_num, HST.out.next hlt rfl⟩
          case measure => simp [intOf]; omega
    · obtain rfl : k = L.length := by omega
      obtain ⟨wk, rfl⟩ : ∃ wk : World, wk = wr := ⟨_, rfl⟩
      have HS2 : Hid (TSt2 base als cls L w wk.heap.size 0 none 0 [] wk) := TSt2.start hst hb
      clear hst
      go_wp2_with fail
      go_loopw [5, 6] (fun v i wr => ∃ (k : Nat) (ags : Option Addr) (cgs : Nat) (G : List Sl), k ≤ L.length ∧ i = .int .i64 k ∧ v = .slice ags k cgs ∧ TSt2 base als cls L w wk.heap.size k ags cgs G wr) (fun _ i _ => L.length - (intOf i).toNat)
      case atStart => exact ⟨0, none, 0, [], by omega, rfl, rfl, HS2.out⟩
      case round =>
        obtain ⟨k, ags, cgs, G, hk, rfl, rfl, hst⟩ := hrel
        have HST : Hid (TSt2 base als cls L w wk.heap.size k ags cgs G wr) := hst
        clear hst
        by_cases hlt : k < L.length
        · obtain ⟨gs, e1, _, _, hcs, _⟩ := Own.cell HST.out.outer k (by simpa using hlt)
          have hcs' : wr.cell? ⟨gs, k, none⟩ = some (.slice (L[k]).a (L[k]).n (L[k]).c) := by rw [hcs]; simp [Sl.val]
          clear hcs
          obtain rfl := e1
          go_wp2_with fail
          obtain ⟨wo, rfl⟩ : ∃ wo : World, wo = wr := ⟨_, rfl⟩
          go_loopw [7, 8] (fun v i wr => ∃ (m : Nat) (a : Option Addr) (c : Nat), m ≤ 70 ∧ i = .int .i64 m ∧ v = .slice a ((L[k]).n + m) c ∧ In2 base L k hlt wo m a c wr) (fun _ i _ => 70 - (intOf i).toNat)
          case atStart => exact ⟨0, _, _, by omega, rfl, rfl, In2.startT HST.out hlt⟩
          case round =>
            obtain ⟨m, a, c, hm, rfl, rfl, hin⟩ := hrel
            have HIN : Hid (In2 base L k hlt wo m a c wr) := hin
            clear hin
            obtain ⟨gs2, e1, _, _, hcs, _⟩ := Own.cell (HST.out.outerIn hlt HIN.out.frame) k (by simpa using hlt)
            obtain rfl : gs = gs2 := by simpa using e1
            clear e1
            have hcs2 : wr.cell? ⟨gs, k, none⟩ = some (.slice (L[k]).a (L[k]).n (L[k]).c) := by rw [hcs]; simp [Sl.val]
            clear hcs
            have hn := HN.out k hlt
            have hsz : base ≤ wr.heap.size := Nat.le_trans HST.out.baseB (Nat.le_trans HST.out.size HIN.out.frame.size)
            by_cases hm70 : m < 70
            · go_wp2_with (first | (go_at_call 59; refine (mark_any _ _ _ (by omega) (by omega)).mono ?_; rintro e w' ⟨rfl, rfl⟩) | (at_builtin; refine wpList_push elB rfl (.tmp 51) (.tmp 62) rfl rfl HIN.out.row (.int .u8 ((mrk ((k : Int) + 1) (((L[k]).n : Int) + (m : Int))).toNat : Int)) rfl rfl (by unfold maxLen; omega) (by omega) hsz ?_; intro g cap w1 hown1 hgr))
              go_roundw
              case rel => exact ⟨m + 1, _, _, by omega, by go_num, rfl, HIN.out.next hown1 hgr⟩
              case measure => simp [intOf]; omega
            · obtain rfl : m = 70 := by omega
              have hgs : SOwn wr wk.heap.size ags k cgs G := Own.grownNe HST.out.gs HIN.out.frame fun g1 hc1 ha1 hb1 => by
                obtain ⟨hc2, ha2⟩ := (HST.out.lists k hlt).blk hb1
                have h3 := HST.out.gs
                have h4 := HST.out.lists k hlt
                rw [ha1] at h3
                rw [ha2] at h4
                exact own_ne h3 h4 hc1 hc2 (by decide) rfl
              have hszB : wk.heap.size ≤ wr.heap.size := Nat.le_trans HST.out.size HIN.out.frame.size
              go_wp2_with (at_builtin; refine wpList_push elS rfl (.tmp 64) (.tmp 66) rfl rfl hgs (.slice a ((L[k]).n + 70) c) rfl rfl (by unfold maxLen; omega) (by omega) hszB ?_; intro g cap w1 hown1 hgr)
              go_roundw
              case rel => exact ⟨k + 1, _, _, _, by omega, by go_num, rfl, HST.out.next hlt HD.out HIN.out hown1 hgr⟩
              case measure => simp [intOf]; omega
        · obtain rfl : k = L.length := by omega
          obtain ⟨w3, rfl⟩ : ∃ w3 : World, w3 = wr := ⟨_, rfl⟩
          go_wp2_with fail
          go_loopw [9] (fun i wr => ∃ k n : Nat, k ≤ L.length ∧ i = .int .i64 k ∧ wr = w3.drewN n) (fun i _ => L.length - (intOf i).toNat)
          case atStart => exact ⟨0, 0, by omega, rfl, rfl⟩
          case round =>
            obtain ⟨k, n, hk, rfl, rfl⟩ := hrel
            by_cases hlt : k < L.length
            · obtain ⟨gl, gg, h, c, rfl, rfl, c1, c2, c3, c4⟩ := HST.out.look k hlt
              have C3 := Lib.hid c3
              have C4 := Lib.hid c4
              clear c3 c4
              have hn := HN.out k hlt
              go_wp2_with fail
              go_loopw [10] (fun i wr => ∃ j m : Nat, j ≤ (L[k]).n + 70 ∧ i = .int .i64 j ∧ wr = w3.drewN m) (fun i _ => (L[k]).n + 70 - (intOf i).toNat)
              case atStart => exact ⟨0, n, by omega, rfl, rfl⟩
              case round =>
                obtain ⟨j, m, hj, rfl, rfl⟩ := hrel
                by_cases hjt : j < (L[k]).n + 70
                · have c3 := C3.out j hjt
                  by_cases hjn : j < (L[k]).n
                  · obtain ⟨g, ha, c4⟩ := C4.out j hjn
                    rw [ha] at c1
                    have HA := Lib.hid ha
                    clear ha
                    go_wp2_with (go_at_call 59; refine (mark_any _ _ _ (by omega) (by omega)).mono ?_; rintro e w' ⟨rfl, rfl⟩)
                    go_roundw
                    case rel => exact ⟨j + 1, m, by omega, by go_num, rfl⟩
                    case measure => simp [intOf]; omega
                  · have hjd : decide ((j : Int) < ((L[k]).n : Int)) = false := by rw [decide_eq_false_iff_not]; omega
                    go_wp2_with (go_at_call 59; refine (mark_any _ _ _ (by omega) (by omega)).mono ?_; rintro e w' ⟨rfl, rfl⟩)
                    go_roundw
                    case rel => exact ⟨j + 1, m, by omega, by go_num, rfl⟩
                    case measure => simp [intOf]; omega
                · obtain rfl : j = (L[k]).n + 70 := by omega
                  go_wp2_with fail
                  go_roundw
                  case rel => exact ⟨k + 1, m, by omega, by go_num, rfl⟩
                  case measure => simp [intOf]; omega
            · obtain rfl : k = L.length := by omega
              go_wp2_with fail
              go_ret
              exact ⟨rfl, HST.out.below.drewN _⟩

theorem apartT_n (base : Nat) (als : Option Addr) (cls n : Nat) (L : List Sl) (w : World) (hs : TSt1 base als cls L w 0 0 w) (hb : base ≤ w.heap.size) (hd : Distinct L) (hn : L.length = n) (hK : n ≤ 100000000) (hN : ∀ j (hj : j < L.length), (L[j]).n ≤ 100000000) :
    Calls Try.prog 21 #[.slice als n cls] w fun e w' => e = .returned (.bool true) ∧ BelowT base L w w' := by
  subst hn
  exact apartT_any base als cls L w hs hb hd hK hN

theorem tst1_lit {w : World} {base : Nat} {L : List Sl} (h : ∀ j (hj : j < L.length), ∃ l, BOwn w base (L[j]).a (L[j]).n (L[j]).c l) (hb : base ≤ w.heap.size) (n : Nat) (hn : L.length = n) (hm : n ≤ maxLen) :
    TSt1 base (some ⟨w.heap.size, 0, none⟩) n L (w.alloc (.cells (L.map Sl.val).toArray 22)) 0 0 (w.alloc (.cells (L.map Sl.val).toArray 22)) := by
  subst hn
  refine ⟨(own_lit w _ _ _ (by simp) hm).mono hb, fun j hj => ?_, BelowT.refl _ _ _⟩
  obtain ⟨l, ho⟩ := h j hj
  exact ⟨l, Own.grownNone ho (World.grownBy_alloc w _ none), fun h => absurd h (by omega), fun _ => by simp [mkl]⟩
/-- a list of lists that the call owns, to be written over -/
theorem tst1_own {w : World} {base : Nat} {a : Option Addr} {n c : Nat} {L : List Sl} (ho : SOwn w base a n c L) (h : ∀ j (hj : j < L.length), ∃ l, BOwn w base (L[j]).a (L[j]).n (L[j]).c l) :
    TSt1 base a c L w 0 0 w := by
  refine ⟨by rw [ho.len]; exact ho, fun j hj => ?_, BelowT.refl _ _ _⟩
  obtain ⟨l, ho⟩ := h j hj
  exact ⟨l, ho, fun h => absurd h (by omega), fun _ => by simp [mkl]⟩

end Go.Proofs.Ythemlaibjchjpaa
/- What ApartLists leans on: lists of lists whose members are written over by fresh lists of three bytes. No walk. -/
namespace Go.Proofs.Ythemlaibjchjpaa
open Go.RowKit

/-- the mark of place i of list k -/
def mk3 (k i : Nat) : List UInt8 := [UInt8.ofNat k, UInt8.ofNat i, UInt8.ofNat (i / 256)]
/-- blocks of bytes stay -/
def KB (w w' : World) : Prop := ∀ (b : Nat) (cs : Array Value) (fr : Nat × Nat), w.heap[b]? = some (.cells cs 5 fr) → w'.heap[b]? = some (.cells cs 5 fr)
theorem KB.refl (w : World) : KB w w := fun _ _ _ h => h
theorem KB.trans {a b c : World} (h : KB a b) (k : KB b c) : KB a c := fun _ _ _ hb => k _ _ _ (h _ _ _ hb)
theorem KB.grown {w w' : World} {row : Option Nat} (hg : w.grownBy w' row) (hn : ∀ g, row = some g → NB w g) : KB w w' := fun b cs fr h =>
  (hg.block b (Array.getElem?_eq_some_iff.1 h).1 (fun e => by
    obtain ⟨cs', e', fr', h1, h2⟩ := hn b e.symm
    rw [h] at h1
    injection h1 with h1
    injection h1 with _ h3 _
    exact h2 h3.symm)).trans h
theorem Own.nb {w : World} {base : Nat} {e : TypeId} {size : Nat} {a : Option Addr} {n c : Nat} {xs : List Value} (h : Own w base e size a n c xs) (hne : e ≠ 5) {g : Nat} (hc : 0 < c) (ha : a = some ⟨g, 0, none⟩) : NB w g := by
  rcases h.2 with ⟨_, h0⟩ | ⟨g', cur, ha', hb, hh, _⟩
  · omega
  · rw [ha] at ha'
    injection ha' with ha'; injection ha' with ha'
    subst ha'
    exact ⟨_, _, _, hh, hne⟩
theorem KB.app {w w1 : World} {base : Nat} {e : TypeId} {size : Nat} {a a' : Option Addr} {n c c' : Nat} {xs : List Value} (h : Own w base e size a n c xs) (hne : e ≠ 5) (hg : GrewP w w1 a c a' c') : KB w w1 := by
  rcases hg with ⟨g, rfl, ha, hc, _, hg⟩ | ⟨g, _, _, hg⟩
  · exact KB.grown hg (fun g' e => by injection e with e; subst e; exact h.nb hne hc ha)
  · exact KB.grown hg (fun g' e => by cases e)
/-- v is a mark of place i of list k -/
def Mk (k i : Nat) (w : World) (v : Value) : Prop := ∃ b, v = .slice (some ⟨b, 0, none⟩) 3 3 ∧ BRow w b 5 (mk3 k i)
theorem Mk.keep {k i : Nat} {w w' : World} {v : Value} (h : Mk k i w v) (hk : KB w w') : Mk k i w' v := by
  obtain ⟨b, h1, h2⟩ := h
  exact ⟨b, h1, hk _ _ _ h2⟩
/-- all the cells are marks -/
def Mks (k : Nat) (w : World) (xs : List Value) : Prop := ∀ m (hm : m < xs.length), Mk k m w xs[m]
theorem Mks.keep {k : Nat} {w w' : World} {xs : List Value} (h : Mks k w xs) (hk : KB w w') : Mks k w' xs := fun m hm => (h m hm).keep hk
theorem Mks.take {k : Nat} {w : World} {xs : List Value} (h : Mks k w xs) (n : Nat) : Mks k w (xs.take n) := fun m hm => by
  rw [List.length_take] at hm
  rw [List.getElem_take]
  exact h m (by omega)
theorem Mks.push {k : Nat} {w : World} {xs : List Value} (h : Mks k w xs) {v : Value} (hv : Mk k xs.length w v) : Mks k w (xs ++ [v]) := fun m hm => by
  by_cases e : m < xs.length
  · rw [List.getElem_append_left e]; exact h m e
  · simp only [List.length_append, List.length_singleton] at hm
    obtain rfl : m = xs.length := by omega
    simpa using hv

/-- the slices of a list, each a row of slices of bytes -/
abbrev XOwn (w : World) (base : Nat) (s : Sl) (xs : List Value) : Prop := Own w base 22 1 s.a s.n s.c xs
abbrev OOwn (w : World) (base : Nat) (a : Option Addr) (n c : Nat) (O : List Sl) : Prop := Own w base 24 1 a n c (O.map Sl.val)
theorem elL : El Try.prog 94 24 (.slice none 0 0) 1 24 :=
  ⟨Try.underlying94, info_parts (by kernel_rfl), rfl, by decide⟩

/-- phase 1: the lists below k are written over, of list k the first i -/
structure LSt1 (base : Nat) (als : Option Addr) (cls : Nat) (O : List Sl) (w : World) (k i : Nat) (wr : World) : Prop where
  outer : OOwn wr base als O.length cls O
  inner : ∀ j (hj : j < O.length), ∃ xs, XOwn wr base O[j] xs ∧ ∀ m (hm : m < xs.length), (j < k ∨ (j = k ∧ m < i)) → Mk j m wr xs[m]
  below : Below base w wr
  size : base ≤ wr.heap.size

section
variable {base : Nat} {als : Option Addr} {cls : Nat} {O : List Sl} {w wr w2 : World} {k i : Nat}
theorem LSt1.grown (h : LSt1 base als cls O w k i wr) (hg : wr.grownBy w2 none) : LSt1 base als cls O w k i w2 :=
  ⟨Own.grownNone h.outer hg, fun j hj => by
    obtain ⟨xs, h1, h2⟩ := h.inner j hj
    exact ⟨xs, Own.grownNone h1 hg, fun m hm hmm => (h2 m hm hmm).keep (KB.grown hg (fun g e => by cases e))⟩, h.below.grown hg h.size (fun g e => by cases e), Nat.le_trans h.size hg.size⟩
theorem LSt1.next (h : LSt1 base als cls O w k i wr) (hk : k < O.length) (hi : i = (O[k]).n) : LSt1 base als cls O w (k + 1) 0 wr :=
  ⟨h.outer, fun j hj => by
    obtain ⟨xs, h1, h2⟩ := h.inner j hj
    refine ⟨xs, h1, fun m hm hmm => h2 m hm ?_⟩
    have hx := h1.1
    rcases hmm with hmm | hmm
    · by_cases e : j = k
      · subst e; exact .inr ⟨rfl, by omega⟩
      · exact .inl (by omega)
    · omega, h.below, h.size⟩
theorem LSt1.store (h : LSt1 base als cls O w k i wr) (hd : Distinct O) (hk : k < O.length) (hi : i < (O[k]).n) {v : Value} (hv : Mk k i wr v) :
    ∃ g, (O[k]).a = some ⟨g, 0, none⟩ ∧ (∃ u, wr.cell? ⟨g, i, none⟩ = some u) ∧ wr.frozen? ⟨g, i, none⟩ = false ∧ LSt1 base als cls O w k (i + 1) (wr.setCell ⟨g, i, none⟩ v) := by
  obtain ⟨xs, ho, h2⟩ := h.inner k hk
  have hlen := ho.1
  obtain ⟨g, ha, hb, hlt, hc, hf⟩ := Own.cell ho i (by omega)
  have hpos : 0 < (O[k]).c := by
    rcases ho.2 with ⟨h0, _⟩ | ⟨_, _, _, _, _, hn, _⟩ <;> omega
  have hblk : (O[k]).blk = some g := by simp [Sl.blk, Nat.ne_of_gt hpos, ha]
  have hkb : KB wr (wr.setCell ⟨g, i, none⟩ v) := KB.grown (grownBy_setCell _ _ _ _) (fun g' e => by injection e with e; subst e; exact Own.nb ho (by decide) hpos ha)
  refine ⟨g, ha, ⟨_, hc⟩, hf, ?_, fun j hj => ?_, h.below.trans ((Below.refl base wr).setCell (p := ⟨g, i, none⟩) hb _), by simpa [World.setCell] using h.size⟩
  · have ho' : Own wr base 22 1 (O[k]).a (O[k]).n (O[k]).c xs := ho
    rw [ha] at ho'
    exact Own.setOther h.outer ho' hpos (by decide) _ _
  · by_cases e : j = k
    · subst e
      refine ⟨xs.set i v, ?_, fun m hm hmm => ?_⟩
      · show Own _ _ _ _ _ _ _ _
        have ho' : Own wr base 22 1 (O[j]).a (O[j]).n (O[j]).c xs := ho
        rw [ha] at ho' ⊢
        exact Own.set ho' i (by omega) v
      · rw [List.length_set] at hm
        by_cases em : m = i
        · subst em
          rw [List.getElem_set_self]
          exact hv.keep hkb
        · rw [List.getElem_set_ne (by omega)]
          exact (h2 m hm (by omega)).keep hkb
    · obtain ⟨xj, hoj, h1j⟩ := h.inner j hj
      refine ⟨xj, ?_, fun m hm hmm => (h1j m hm (by omega)).keep hkb⟩
      refine hoj.kept' fun hcj g' hg' _ => Below.heap_setCell _ _ _ _ ?_
      rintro rfl
      exact hd j k hj hk e g' (by simp [Sl.blk, Nat.ne_of_gt hcj, hg']) hblk
end

/-- phase 2: to the copies below k the marks behind their lists have been appended -/
structure LSt2 (base : Nat) (als : Option Addr) (cls : Nat) (O : List Sl) (w : World) (B : Nat) (k : Nat) (ags : Option Addr) (cgs : Nat) (G : List Sl) (wr : World) : Prop where
  outer : OOwn wr base als O.length cls O
  gs : OOwn wr B ags k cgs G
  lists : ∀ j (hj : j < O.length), ∃ xs, XOwn wr base O[j] xs ∧ Mks j wr xs
  done : ∀ j (hj : j < O.length) (hG : j < G.length), (G[j]).n = (O[j]).n + 70 ∧ (∃ xs, XOwn wr base G[j] xs ∧ Mks j wr xs) ∧ ∀ g, (G[j]).blk = some g → (O[j]).blk = some g ∨ B ≤ g
  below : Below base w wr
  size : B ≤ wr.heap.size
  baseB : base ≤ B
  oldO : ∀ g, 0 < cls → als = some ⟨g, 0, none⟩ → g < B
  oldL : ∀ j (hj : j < O.length) g, (O[j]).blk = some g → g < B

theorem own_blk {w : World} {base : Nat} {e : TypeId} {s : Sl} {xs : List Value} (h : Own w base e 1 s.a s.n s.c xs) {g : Nat} (hb : s.blk = some g) : 0 < s.c ∧ s.a = some ⟨g, 0, none⟩ ∧ base ≤ g ∧ g < w.heap.size := by
  unfold Sl.blk at hb
  split at hb
  · cases hb
  · rename_i hc
    obtain ⟨g', ha, h1, h2⟩ := Own.block h (by omega)
    rw [ha] at hb
    simp at hb
    subst hb
    exact ⟨by omega, ha, h1, h2⟩

theorem LSt2.start {base : Nat} {als : Option Addr} {cls : Nat} {O : List Sl} {w wr : World} (h : LSt1 base als cls O w O.length 0 wr) : LSt2 base als cls O w wr.heap.size 0 none 0 [] wr where
  outer := h.outer
  gs := Own.nil _ _ _ _ _
  lists := fun j hj => by
    obtain ⟨xs, ho, h1⟩ := h.inner j hj
    exact ⟨xs, ho, fun m hm => h1 m hm (.inl hj)⟩
  done := fun j hj hG => absurd hG (by simp)
  below := h.below
  size := Nat.le_refl _
  baseB := h.size
  oldO := fun g hc ha => by
    obtain ⟨g', ha', _, hlt⟩ := Own.block h.outer hc
    rw [ha] at ha'
    injection ha' with ha'; injection ha' with ha'
    omega
  oldL := fun j hj g hg => by
    obtain ⟨xs, ho, _⟩ := h.inner j hj
    exact (own_blk ho hg).2.2.2

/-- the inner loop of phase 2 -/
structure LIn2 (base : Nat) (O : List Sl) (k : Nat) (hk : k < O.length) (wk : World) (i : Nat) (a : Option Addr) (c : Nat) (ys : List Value) (wr : World) : Prop where
  row : Own wr base 22 1 a ((O[k]).n + i) c ys
  marks : Mks k wr ys
  list : XOwn wr base O[k] (ys.take (O[k]).n)
  frame : wk.grownBy wr (O[k]).blk
  place : ∀ g, 0 < c → a = some ⟨g, 0, none⟩ → (O[k]).blk = some g ∨ wk.heap.size ≤ g
section
variable {base : Nat} {als : Option Addr} {cls : Nat} {O : List Sl} {w wk wr w1 w2 : World} {B k i : Nat} {hk : k < O.length} {a ags : Option Addr} {c cgs : Nat} {G : List Sl} {ys : List Value}
theorem LIn2.start (h : LSt2 base als cls O w B k ags cgs G wr) (hk : k < O.length) : ∃ ys, LIn2 base O k hk wr 0 (O[k]).a (O[k]).c ys wr := by
  obtain ⟨xs, h1, h2⟩ := h.lists k hk
  have hl := h1.1
  exact ⟨xs, h1, h2, by rw [List.take_of_length_le (by omega)]; exact h1, World.grownBy.refl _ _, fun g hc ha => .inl (Sl.blk_some hc ha)⟩
theorem LIn2.grown (h : LIn2 base O k hk wk i a c ys wr) (hg : wr.grownBy w2 none) : LIn2 base O k hk wk i a c ys w2 :=
  ⟨Own.grownNone h.row hg, h.marks.keep (KB.grown hg (fun g e => by cases e)), Own.grownNone h.list hg, grownBy_trans h.frame (grownBy_some hg _), h.place⟩
theorem LIn2.next (h : LIn2 base O k hk wk i a c ys wr) {g c' : Nat} {v : Value} (hv : Mk k ((O[k]).n + i) wr v)
    (ho : Own w1 base 22 1 (some ⟨g, 0, none⟩) ((O[k]).n + i + 1) c' (ys ++ [v])) (hg : GrewP wr w1 a c (some ⟨g, 0, none⟩) c') : LIn2 base O k hk wk (i + 1) (some ⟨g, 0, none⟩) c' (ys ++ [v]) w1 := by
  have hyl : ys.length = (O[k]).n + i := by have := h.row.1; omega
  have hkb := KB.app h.row (by decide) hg
  have hmk : Mks k w1 (ys ++ [v]) := (h.marks.keep hkb).push ((by rw [hyl]; exact hv : Mk k ys.length wr v).keep hkb)
  have htk : (ys ++ [v]).take (O[k]).n = ys.take (O[k]).n := by rw [List.take_append_of_le_length (by omega)]
  rcases hg with ⟨g1, e1, rfl, hc, hcc, hg⟩ | ⟨g1, e1, hs, hg⟩
  · injection e1 with e1; injection e1 with e1
    subst e1
    have hpl := h.place g hc rfl
    refine ⟨ho, hmk, ?_, ?_, fun g2 _ e2 => ?_⟩
    · rw [htk]
      by_cases hb : (O[k]).blk = some g
      · obtain ⟨hc2, ha2, _⟩ := own_blk h.list hb
        have hl := h.list
        show Own _ _ _ _ _ _ _ _
        have hl' : Own wr base 22 1 (O[k]).a (O[k]).n (O[k]).c (ys.take (O[k]).n) := hl
        rw [ha2] at hl' ⊢
        have hcap := own_cap h.row hl' hc hc2
        refine own_prefix hl' hc2 ho (by omega) htk (by omega)
      · refine Own.grownNe h.list hg fun g2 hc2 ha2 e2 => ?_
        injection e2 with e2
        subst e2
        exact hb (Sl.blk_some hc2 ha2)
    · rcases hpl with hb | hb
      · rw [hb]; exact grownBy_trans (by have := h.frame; rwa [hb] at this) hg
      · exact ⟨hg.os.trans h.frame.os, hg.tape.trans h.frame.tape, hg.output.trans h.frame.output, Nat.le_trans h.frame.size hg.size, fun b hb1 hb2 => (hg.block b (Nat.lt_of_lt_of_le hb1 h.frame.size) (by simp; omega)).trans (h.frame.block b hb1 hb2)⟩
    · injection e2 with e2; injection e2 with e2
      subst e2
      exact hpl
  · injection e1 with e1; injection e1 with e1
    subst e1
    refine ⟨ho, hmk, by rw [htk]; exact Own.grownNone h.list hg, grownBy_trans h.frame (grownBy_some hg _), fun g2 _ e2 => ?_⟩
    injection e2 with e2; injection e2 with e2
    subst e2
    exact .inr (Nat.le_trans h.frame.size hs)

/-- a region that appends may have come as far as its append -/
theorem LIn2.stay (h : LIn2 base O k hk wk i a c ys wr) (hc : Ch (In a c) wr w2) (ho : Own w2 base 22 1 a ((O[k]).n + i) c ys) : LIn2 base O k hk wk i a c ys w2 := by
  have hkb : KB wr w2 := fun b cs fr hb => (hc.block b (Array.getElem?_eq_some_iff.1 hb).1 (fun hi => by
    obtain ⟨cs', e', fr', h1, h2⟩ := Own.nb h.row (by decide) hi.1 hi.2
    rw [hb] at h1
    injection h1 with h1
    injection h1 with _ h3 _
    exact h2 h3.symm)).trans hb
  rcases Nat.eq_zero_or_pos c with h0 | h0
  · have hg : wr.grownBy w2 none := ⟨hc.os, hc.tape, hc.output, hc.size, fun b hb _ => hc.block b hb (fun hi => by have := hi.1; omega)⟩
    exact h.grown hg
  · obtain ⟨g, rfl, _, _⟩ := Own.block h.row h0
    have hg : wr.grownBy w2 (some g) := ⟨hc.os, hc.tape, hc.output, hc.size, fun b hb hne => hc.block b hb (fun hi => by
      obtain ⟨_, e⟩ := hi
      injection e with e; injection e with e
      exact hne (by rw [e]))⟩
    refine ⟨ho, h.marks.keep hkb, ?_, ?_, h.place⟩
    · by_cases hb : (O[k]).blk = some g
      · obtain ⟨hc2, ha2, _⟩ := own_blk h.list hb
        have hl := h.list
        show Own _ _ _ _ _ _ _ _
        have hl' : Own wr base 22 1 (O[k]).a (O[k]).n (O[k]).c (ys.take (O[k]).n) := hl
        rw [ha2] at hl' ⊢
        have hcap := own_cap h.row hl' h0 hc2
        exact own_prefix hl' hc2 ho (by omega) rfl (by omega)
      · refine Own.grownNe h.list hg fun g2 hc2 ha2 e2 => ?_
        injection e2 with e2
        subst e2
        exact hb (Sl.blk_some hc2 ha2)
    · rcases h.place g h0 rfl with hb | hb
      · rw [hb]; exact grownBy_trans (by have := h.frame; rwa [hb] at this) hg
      · exact ⟨hg.os.trans h.frame.os, hg.tape.trans h.frame.tape, hg.output.trans h.frame.output, Nat.le_trans h.frame.size hg.size, fun b hb1 hb2 => (hg.block b (Nat.lt_of_lt_of_le hb1 h.frame.size) (by simp; omega)).trans (h.frame.block b hb1 hb2)⟩

/-- a row of another type stays where list k's block is written -/
theorem own_ne' {e e' : TypeId} {base' : Nat} {n n' c' : Nat} {xs : List Value} {zs : List Value} {s : Sl} {a' : Option Addr} {u u' : World} (h : Own u base' e 1 a' n' c' zs) (h' : Own u base e' 1 s.a n s.c xs) (hn : n = s.n) (hne : e ≠ e') (hf : u.grownBy u' s.blk) : Own u' base' e 1 a' n' c' zs := by
  subst hn
  refine Own.grownNe h hf fun g1 hc1 ha1 hb1 => ?_
  obtain ⟨hc2, ha2, _⟩ := own_blk h' hb1
  rw [ha1] at h
  rw [ha2] at h'
  exact own_ne h h' hc1 hc2 hne rfl
theorem LSt2.outerIn (h : LSt2 base als cls O w B k ags cgs G wk) (hk : k < O.length) (hf : wk.grownBy wr (O[k]).blk) : OOwn wr base als O.length cls O := by
  obtain ⟨xs, h1, _⟩ := h.lists k hk
  exact own_ne' h.outer h1 rfl (by decide) hf
theorem LSt2.gsIn (h : LSt2 base als cls O w B k ags cgs G wk) (hk : k < O.length) (hf : wk.grownBy wr (O[k]).blk) : OOwn wr B ags k cgs G := by
  obtain ⟨xs, h1, _⟩ := h.lists k hk
  exact own_ne' h.gs h1 rfl (by decide) hf
theorem LSt2.kbIn (h : LSt2 base als cls O w B k ags cgs G wk) (hk : k < O.length) (hf : wk.grownBy wr (O[k]).blk) : KB wk wr := by
  obtain ⟨xs, h1, _⟩ := h.lists k hk
  exact KB.grown hf (fun g e => by obtain ⟨hc2, ha2, _⟩ := own_blk h1 e; exact Own.nb h1 (by decide) hc2 ha2)

/-- the copy is laid among the others -/
theorem LSt2.next (h : LSt2 base als cls O w B k ags cgs G wk) (hk : k < O.length) (hd : Distinct O) (h2 : LIn2 base O k hk wk 70 a c ys wr)
    {g cg : Nat} (ho : Own w1 B 24 1 (some ⟨g, 0, none⟩) (k + 1) cg (G.map Sl.val ++ [.slice a ((O[k]).n + 70) c])) (hg : GrewP wr w1 ags cgs (some ⟨g, 0, none⟩) cg) : LSt2 base als cls O w B (k + 1) (some ⟨g, 0, none⟩) cg (G ++ [⟨a, (O[k]).n + 70, c⟩]) w1 := by
  have hGl : G.length = k := by have := h.gs.1; simpa using this
  have gs' := h.gsIn hk h2.frame
  have kb1 := h.kbIn hk h2.frame
  have kb2 := KB.app gs' (by decide) hg
  have lists' : ∀ j (hj : j < O.length), ∃ xs, XOwn wr base O[j] xs ∧ Mks j wr xs := by
    intro j hj
    by_cases e : j = k
    · subst e; exact ⟨_, h2.list, h2.marks.take _⟩
    · obtain ⟨xs, h3, h4⟩ := h.lists j hj
      exact ⟨xs, Own.grownNe h3 h2.frame fun g1 hc1 ha1 hb1 => hd j k hj hk e g1 (Sl.blk_some hc1 ha1) hb1, h4.keep kb1⟩
  refine ⟨?_, by unfold OOwn; rw [List.map_append]; exact ho, fun j hj => ?_, fun j hj hG => ?_, ?_, ?_, h.baseB, h.oldO, h.oldL⟩
  · have o1 := h.outerIn hk h2.frame
    rcases hg with ⟨g1, e1, rfl, hc, hcc, hg⟩ | ⟨g1, e1, hs, hg⟩
    · refine Own.grownNe o1 hg fun g2 hc2 ha2 e2 => ?_
      injection e2 with e2
      subst e2
      have := h.oldO _ hc2 ha2
      obtain ⟨g3, e3, hb3, _⟩ := Own.block gs' hc
      rw [e1] at e3
      injection e3 with e3; injection e3 with e3
      omega
    · exact Own.grownNone o1 hg
  · obtain ⟨xs, h3, h4⟩ := lists' j hj
    exact ⟨xs, Own.grewOther h3 gs' hg (by decide), h4.keep kb2⟩
  · by_cases e : j = k
    · subst e
      have eG : (G ++ [(⟨a, (O[j]).n + 70, c⟩ : Sl)])[j] = ⟨a, (O[j]).n + 70, c⟩ := by
        rw [List.getElem_append_right (by omega)]; simp [hGl]
      rw [eG]
      refine ⟨rfl, ⟨ys, Own.grewOther h2.row gs' hg (by decide), h2.marks.keep kb2⟩, fun g1 hb1 => ?_⟩
      obtain ⟨hc, ha, _⟩ := own_blk (s := ⟨a, (O[j]).n + 70, c⟩) h2.row hb1
      rcases h2.place g1 hc ha with hp | hp
      · exact .inl hp
      · exact .inr (Nat.le_trans h.size hp)
    · have hjk : j < k := by simp at hG; omega
      have eG : (G ++ [(⟨a, (O[k]).n + 70, c⟩ : Sl)])[j] = G[j]'(by omega) := List.getElem_append_left (by omega)
      rw [eG]
      obtain ⟨e1, ⟨xs, e2, e4⟩, e3⟩ := h.done j hj (by omega)
      refine ⟨e1, ⟨xs, Own.grewOther (Own.grownNe e2 h2.frame fun g1 hc1 ha1 hb1 => ?_) gs' hg (by decide), (e4.keep kb1).keep kb2⟩, e3⟩
      rcases e3 g1 (Sl.blk_some hc1 ha1) with h5 | h5
      · exact hd j k hj hk e g1 h5 hb1
      · have := h.oldL k hk g1 hb1
        omega
  · have f1 : Below base wk wr := by
      refine ⟨h2.frame.os, h2.frame.tape, h2.frame.output, h2.frame.size, fun b hb => h2.frame.block b (by have := h.size; have := h.baseB; omega) fun e => ?_⟩
      obtain ⟨xs, h3, _⟩ := h.lists k hk
      have := (own_blk h3 e.symm).2.2.1
      omega
    refine h.below.trans (f1.trans ?_)
    rcases hg with ⟨g1, e1, rfl, hc, hcc, hg⟩ | ⟨g1, e1, hs, hg⟩
    · obtain ⟨g3, e3, hb3, _⟩ := Own.block gs' hc
      rw [e1] at e3
      injection e3 with e3; injection e3 with e3
      exact (Below.refl base wr).grown hg (by have := h.size; have := h.baseB; have := h2.frame.size; omega) (by rintro b ⟨⟩; have := h.baseB; omega)
    · exact (Below.refl base wr).grown hg (by have := h.size; have := h.baseB; have := h2.frame.size; omega) (by simp)
  · have := h.size
    have := h2.frame.size
    have := hg.grew.size
    omega

/-- phase 3: what is looked at -/
theorem LSt2.look (h : LSt2 base als cls O w B O.length ags cgs G wr) (k : Nat) (hk : k < O.length) :
    ∃ gl gg h c, als = some ⟨gl, 0, none⟩ ∧ ags = some ⟨gg, 0, none⟩ ∧ wr.cell? ⟨gl, k, none⟩ = some (.slice (O[k]).a (O[k]).n (O[k]).c) ∧ wr.cell? ⟨gg, k, none⟩ = some (.slice (some ⟨h, 0, none⟩) ((O[k]).n + 70) c) ∧
      (∀ i, i < (O[k]).n + 70 → ∃ b, wr.cell? ⟨h, i, none⟩ = some (.slice (some ⟨b, 0, none⟩) 3 3) ∧ BRow wr b 5 (mk3 k i)) ∧
      (∀ i, i < (O[k]).n → ∃ g b, (O[k]).a = some ⟨g, 0, none⟩ ∧ wr.cell? ⟨g, i, none⟩ = some (.slice (some ⟨b, 0, none⟩) 3 3) ∧ BRow wr b 5 (mk3 k i)) := by
  obtain ⟨gl, e1, _, _, c1, _⟩ := Own.cell h.outer k (by simpa using hk)
  have hGl : G.length = O.length := by have := h.gs.1; simpa using this
  obtain ⟨gg, e2, _, _, c2, _⟩ := Own.cell h.gs k (by simpa [hGl] using hk)
  have hG : k < G.length := by rw [hGl]; exact hk
  obtain ⟨d1, ⟨xs, d2, d4⟩, _⟩ := h.done k hk hG
  have hxl : xs.length = (O[k]).n + 70 := by have := d2.1; omega
  obtain ⟨hh, e3, _, _, _, _⟩ := Own.cell d2 0 (by omega)
  refine ⟨gl, gg, hh, (G[k]).c, e1, e2, by rw [c1]; simp [Sl.val], by rw [c2]; simp [Sl.val, e3, d1], fun i hi => ?_, fun i hi => ?_⟩
  · obtain ⟨h', e4, _, _, c4, _⟩ := Own.cell d2 i (by omega)
    rw [e3] at e4
    injection e4 with e4; injection e4 with e4
    subst e4
    obtain ⟨b, h5, h6⟩ := d4 i (by omega)
    exact ⟨b, by rw [c4, h5], h6⟩
  · obtain ⟨xo, h7, h8⟩ := h.lists k hk
    have hxo : xo.length = (O[k]).n := by have := h7.1; omega
    obtain ⟨g, e4, _, _, c4, _⟩ := Own.cell h7 i (by omega)
    obtain ⟨b, h5, h6⟩ := h8 i (by omega)
    exact ⟨g, b, e4, by rw [c4, h5], h6⟩
end

/-- what the call to ApartBytes leaves of rows of other things -/
theorem Own.keptT {w w' : World} {base b0 : Nat} {e : TypeId} {size : Nat} {a : Option Addr} {n c : Nat} {xs : List Value} (h : Own w base e size a n c xs) (hne : e ≠ 5) {L : List Sl} (hb : BelowT b0 L w w') : Own w' base e size a n c xs :=
  h.kept' fun hc g ha _ => hb.other g (h.nb hne hc ha)
end Go.Proofs.Ythemlaibjchjpaa
