/- SameLists, KeptLists, OverLists. -/
import Derived.Test.YtfboddnpkaiifaaLentLists
import Derived.Test.YtfboddnpkaiifaaSame
import Derived.Test.YtfboddnpkaiifaaKept
namespace Go.Proofs.Ytfboddnpkaiifaa
open Go.RowKit

theorem quietD {P : Program} {f : FuncId} {args : Array Value} {w : World} {n : Nat} {v : Value} (h : Calls P f args (w.drewN n) fun e w' => e = .returned v ∧ ∃ q, w' = (w.drewN n).drewN q) : Calls P f args (w.drewN n) fun e w'' => e = .returned v ∧ ∃ m, w'' = w.drewN m :=
  h.mono fun _ _ ⟨he, q, hw⟩ => ⟨he, n + q, by rw [hw, World.drewN_drewN]⟩

/-- where list i lies -/
theorem LLies.at {w : World} {a : Option Addr} {L : List Sl} {bs : List (List UInt8)} (h : LLies w a L bs) (i : Nat) (hi : i < bs.length) : ∃ g o sa m sc, a = some ⟨g, o, none⟩ ∧ w.cell? ⟨g, o + i, none⟩ = some (.slice sa m sc) ∧ BLies w sa bs[i] ∧ (bs[i]).length = m := by
  have hiL : i < L.length := by rw [h.2.1]; exact hi
  obtain ⟨g, o, e, hc⟩ := h.1 i (by rw [List.length_map]; exact hiL)
  obtain ⟨h1, h2⟩ := h.2.2 i hiL hi
  refine ⟨g, o, (L[i]).a, (L[i]).n, (L[i]).c, e, ?_, h1, h2.symm⟩
  rw [hc]
  simp [Sl.val]

set_option maxRecDepth 100000 in
set_option maxHeartbeats 1000000 in
theorem sameLists_yes (a a' : Option Addr) (c c' n : Nat) (L L' : List Sl) (bs : List (List UInt8)) (w : World) (ha : LLies w a L bs) (hb : LLies w a' L' bs) (hn : bs.length = n) (hm : n ≤ maxLen) (hl : ∀ b ∈ bs, b.length ≤ maxLen) :
    Calls Try.prog 19 #[.slice a n c, .slice a' n c'] w fun e w' => e = .returned (.bool true) ∧ ∃ q, w' = w.drewN q := by
  unfold maxLen at hm
  have HA := Lib.hid ha
  have HB := Lib.hid hb
  have HN := Lib.hid hn
  have HL := Lib.hid hl
  clear ha hb hn hl
  go_enter Try.func19, Try.ntmps19
  go_wp2_with fail
  go_loopw [5] (fun vi wr => ∃ i q : Nat, i ≤ n ∧ vi = .int .i64 i ∧ wr = w.drewN q) (fun vi _ => n - (intOf vi).toNat)
  case atStart => exact ⟨0, 0, by omega, rfl, rfl⟩
  case round =>
    obtain ⟨i, q0, hi, rfl, hq0⟩ := hrel
    have hgw : w.grownBy wr none := by rw [hq0]; exact grownBy_drewN _ _ _
    have HGW := Lib.hid hgw
    have HQ0 := Lib.hid hq0
    clear hgw hq0
    by_cases hlt : i < n
    · obtain ⟨g, o, sa, m, sc, rfl, c1, l1, h1⟩ := (HA.out.grown HGW.out).at i (by rw [HN.out]; exact hlt)
      obtain ⟨g', o', sa', m', sc', rfl, c2, l2, h2⟩ := (HB.out.grown HGW.out).at i (by rw [HN.out]; exact hlt)
      have hmx : (bs[i]'(by rw [HN.out]; exact hlt)).length ≤ maxLen := HL.out _ (List.getElem_mem _)
      have L1 := Lib.hid l1
      have L2 := Lib.hid l2
      have H1 := Lib.hid h1
      have H2 := Lib.hid h2
      have HMX := Lib.hid hmx
      clear l1 l2 h1 h2 hmx
      go_wp2_with fail
      go_quiet ((go_at_call 27; exact quietD (same_yes sa sa' sc sc' m m' _ _ (L1.out.drewN _) (L2.out.drewN _) H1.out H2.out (by rw [← H1.out]; exact HMX.out))))
      go_wp2_with fail
      go_roundw
      case rel => exact ⟨i + 1, q0 + nq, by omega, by go_num, by rw [HQ0.out, World.drewN_drewN]⟩
      case measure => simp [intOf]; omega
    · obtain rfl : i = n := by omega
      go_wp2_with fail
      go_ret
      exact ⟨rfl, _, HQ0.out⟩

/-- the lists without their marks -/
theorem pre_lies {w : World} {base : Nat} {aE aF : Option Addr} {n cE cF : Nat} {bs : List (List UInt8)} {Es Ms : List Sl} (hE : LIs w base aE n cE (bs.map lent) Es) (hF : SOwn w base aF (n + 70) cF (preS Es ++ Ms)) : LLies w aF (preS Es) bs := by
  have hl := hE.len
  rw [List.length_map] at hl
  refine ⟨fun k hk => ?_, by rw [preS_len, hl], fun i hi hi' => ?_⟩
  · rw [List.length_map, preS_len] at hk
    obtain ⟨g, e, _, _, hc, _⟩ := Own.cell hF k (by rw [List.length_map, List.length_append, preS_len]; omega)
    refine ⟨g, 0, e, ?_⟩
    rw [Nat.zero_add, hc]
    simp [preS_len, hk]
  · rw [preS_len] at hi
    have hb := hE.inner i hi (by rw [List.length_map]; exact hi')
    rw [List.getElem_map] at hb
    have hlen : (lent (bs[i])).length = (Es[i]).n := BOwn.len hb
    have h2 := (BOwn.lies hb).take (bs[i]).length
    rw [lent_take _ _ rfl] at h2
    have h3 := lent_length (bs[i])
    simp only [preS, List.getElem_map]
    exact ⟨h2, by omega⟩
theorem sown_cell {w : World} {base : Nat} {a : Option Addr} {n c : Nat} {L : List Sl} (h : SOwn w base a n c L) (k : Nat) (s : Sl) (hs : L[k]? = some s) : ∃ g, a = some ⟨g, 0, none⟩ ∧ w.cell? ⟨g, k, none⟩ = some (.slice s.a s.n s.c) ∧ w.frozen? ⟨g, k, none⟩ = false := by
  obtain ⟨hk, rfl⟩ := List.getElem?_eq_some_iff.1 hs
  obtain ⟨g, e, _, _, hc, hf⟩ := Own.cell h k (by rw [List.length_map]; exact hk)
  exact ⟨g, e, by rw [hc]; simp [Sl.val], hf⟩

set_option maxRecDepth 100000 in
set_option maxHeartbeats 2000000 in
theorem keptLists_yes (aF aE a : Option Addr) (base cF cE c n : Nat) (Es Ms L : List Sl) (bs : List (List UInt8)) (w : World) (hE : LIs w base aE n cE (bs.map lent) Es) (hF : SOwn w base aF (n + 70) cF (preS Es ++ Ms)) (hMl : Ms.length = 70)
    (hM : ∀ i (h : i < Ms.length), BOwn w base (Ms[i]).a 2 (Ms[i]).c [UInt8.ofNat i, 99] ∧ (Ms[i]).n = 2) (hL : LLies w a L bs) (hn : bs.length = n) (hb : ∀ b ∈ bs, b.length ≤ 4000000000) (hn2 : n ≤ 4000000000) :
    Calls Try.prog 24 #[.agg #[.slice aF n cF, .slice aF (n + 70) cF, .slice aE n cE], .slice a n c] w fun e w' => e = .returned (.bool true) ∧ w.grownBy w' none := by
  have hEl : Es.length = n := by have := hE.len; rw [List.length_map, hn] at this; exact this
  have hcF := (Own.cap hF).1
  obtain ⟨gF, haF, _, _⟩ := Own.block hF (by omega)
  subst haF
  have HP := Lib.hid (pre_lies hE hF)
  have HE := Lib.hid hE
  have HF := Lib.hid hF
  have HML := Lib.hid hMl
  have HM := Lib.hid hM
  have HL := Lib.hid hL
  have HN := Lib.hid hn
  have HB := Lib.hid hb
  have HEL := Lib.hid hEl
  have hw1 : IntKind.i64.wrap ((n : Int) + 70) = (n : Int) + 70 := IntWalk.i64_in _ (by omega)
  clear hE hF hMl hM hL hn hb hEl
  go_enter Try.func24, Try.ntmps24
  go_wp2_with (refine wpList_boxed rfl rfl #[.slice (some ⟨gF, 0, none⟩) n cF, .slice (some ⟨gF, 0, none⟩) (n + 70) cF, .slice aE n cE] rfl ?_; intro w1 hs1 hg1 hr1; have HG1 := Lib.hid hg1; have HR1 := Lib.hid hr1; have c1 := Row.cell hr1 1; have c2 := Row.cell hr1 2; simp at c1 c2; clear hs1 hg1 hr1)
  obtain ⟨b2, hb2⟩ : ∃ b2, b2 = w.heap.size := ⟨_, rfl⟩
  rw [← hb2] at HR1 c1 c2 ⊢
  clear hb2
  refine (sameLists_yes _ _ _ _ n _ _ bs w1 (HP.out.grown HG1.out) (HL.out.grown HG1.out) HN.out (by unfold maxLen; omega) (fun b hb => Nat.le_trans (HB.out b hb) (by decide))).mono ?_
  rintro e w2 ⟨rfl, q2, hq2⟩
  have hg2 : w1.grownBy w2 none := by rw [hq2]; exact grownBy_drewN _ _ _
  have HG2 := Lib.hid (grownBy_trans HG1.out hg2)
  have HR2 := Lib.hid (HR1.out.grown hg2)
  clear hq2 hg2 c1 c2 HR1 HG1
  go_wp2_with fail
  go_loopw [5] (fun vi wr => ∃ i : Nat, i ≤ n ∧ vi = .int .i64 i ∧ Row wr b2 36 #[.slice (some ⟨gF, 0, none⟩) n cF, .slice (some ⟨gF, 0, none⟩) (n + 70) cF, .slice aE n cE] ∧ w.grownBy wr none) (fun vi _ => n - (intOf vi).toNat)
  case atStart => exact ⟨0, by omega, rfl, HR2.out, HG2.out⟩
  case round =>
    obtain ⟨i, hi, rfl, hr, hg⟩ := hrel
    have HR := Lib.hid hr
    have HG := Lib.hid hg
    clear hr hg HR2 HG2
    by_cases hlt : i < n
    · obtain ⟨ga, oa, sa, m, sc, haa, c3, l3, h3⟩ := (HL.out.grown HG.out).at i (by rw [HN.out]; exact hlt)
      subst haa
      have hin := HE.out.inner i (by rw [HEL.out]; exact hlt) (by rw [List.length_map, HN.out]; exact hlt)
      rw [List.getElem_map] at hin
      obtain ⟨gE, haE, c4, _⟩ := sown_cell (Own.ch HE.out.outer (Ch.ofNone HG.out (fun _ => False)) (fun _ _ _ h => h) : SOwn wr base aE n cE Es) i (Es[i]'(by rw [HEL.out]; exact hlt)) (List.getElem?_eq_getElem (by rw [HEL.out]; exact hlt))
      subst haE
      obtain ⟨s, hs⟩ : ∃ s, s = Es[i]'(by rw [HEL.out]; exact hlt) := ⟨_, rfl⟩
      obtain ⟨b, hbe⟩ : ∃ b, b = bs[i]'(by rw [HN.out]; exact hlt) := ⟨_, rfl⟩
      have hbl : b.length ≤ 4000000000 := HB.out b (by rw [hbe]; exact List.getElem_mem _)
      rw [← hs, ← hbe] at hin
      rw [← hs] at c4
      rw [← hbe] at l3 h3
      obtain ⟨ea, em, ec⟩ := s
      have hin' : BOwn w base ea em ec (lent b) := hin
      have hem : b.length + 70 = em := by have h1 := BOwn.len hin'; have h2 := lent_length b; omega
      have hc4 : wr.cell? ⟨gE, i, none⟩ = some (.slice ea em ec) := c4
      have f2 : ∀ u, wr.grownBy u none → u.cell? ⟨b2, 2, none⟩ = some (.slice (some ⟨gE, 0, none⟩) n cE) := fun u hu => by have := Row.cell (HR.out.grown hu) 2; simpa using this
      have f3 : ∀ u, wr.grownBy u none → u.cell? ⟨gE, i, none⟩ = some (.slice ea em ec) := fun u hu => (World.cell?_of_block (hu.block gE (World.block_lt_of_cell? _ _ hc4) (by simp))).trans hc4
      have f4 : ∀ u, wr.grownBy u none → u.cell? ⟨ga, oa + i, none⟩ = some (.slice sa m sc) := fun u hu => (World.cell?_of_block (hu.block ga (World.block_lt_of_cell? _ _ c3) (by simp))).trans c3
      have hkb : ∀ u, wr.grownBy u none → Calls Try.prog 16 #[.slice ea em ec, .slice sa m sc] u fun e w' => e = .returned (.bool true) ∧ u.grownBy w' none := fun u hu => by
        refine kept_yes ea sa ec sc m em b u ?_ (l3.grown hu) h3 (by omega) (by omega)
        exact (BOwn.lies (BOwn.grown (BOwn.grown hin' HG.out) hu))
      have HC1 := Lib.hid f2
      have HC2 := Lib.hid f3
      have HC3 := Lib.hid f4
      have HKB := Lib.hid hkb
      clear f2 f3 f4 hkb c3 l3 h3 hin hin' c4 hc4 hs hbe hem hbl
      go_upto_region 6 with fail
      refine wp_regionS (fun u => wr.grownBy u none) (by kernel_rfl) (grownBy_drewN wr 1 none) ?_
      refine wpS_take 0 (v := .pointer (some ⟨b2, 2, none⟩)) (oi := { dst := some 39, op := Op.fieldAddr 36 (Operand.tmp 2) 2, type := 0, pos := "nested.go:46", after := #[], guard := none }) rfl (by kernel_rfl) (by kernel_rfl) (by kernel_rfl) (fun _ _ _ h => h) (YS.val (by rfl) (fun _ _ => by go_simp)) ?_
      simp only [Act.put, List.setIfInBounds_toArray, List.set_cons_zero, List.set_cons_succ]
      refine wpS_take 1 (v := .slice (some ⟨gE, 0, none⟩) n cE) (oi := { dst := some 40, op := Op.load 24 (Operand.tmp 39), type := 24, pos := "nested.go:46", after := #[{ on := 0, ground := Ground.data }], guard := none }) rfl (by kernel_rfl) (by kernel_rfl) (by kernel_rfl) (fun _ _ _ h => h) (YS.val (by rfl) (fun u hu => by have hc1 := HC1.out u hu; go_simp)) ?_
      simp only [Act.put, List.setIfInBounds_toArray, List.set_cons_zero, List.set_cons_succ]
      refine wpS_take 2 (v := .int .i64 (i : Int)) (oi := { dst := some 41, op := Op.move (Operand.tmp 5), type := 3, pos := "nested.go:46", after := #[], guard := none }) rfl (by kernel_rfl) (by kernel_rfl) (by kernel_rfl) (fun _ _ _ h => h) (YS.val (by rfl) (fun _ _ => rfl)) ?_
      simp only [Act.put, List.setIfInBounds_toArray, List.set_cons_zero, List.set_cons_succ]
      refine wpS_take 3 (v := .pointer (some ⟨gE, i, none⟩)) (oi := { dst := some 42, op := Op.indexAddr 24 (Operand.tmp 40) (Operand.tmp 41), type := 0, pos := "nested.go:46", after := #[{ on := 1, ground := Ground.data }, { on := 2, ground := Ground.data }], guard := none }) rfl (by kernel_rfl) (by kernel_rfl) (by kernel_rfl) (fun _ _ _ h => h) (YS.val (by rfl) (fun _ _ => by go_simp)) ?_
      simp only [Act.put, List.setIfInBounds_toArray, List.set_cons_zero, List.set_cons_succ]
      refine wpS_take 4 (v := .slice ea em ec) (oi := { dst := some 43, op := Op.load 22 (Operand.tmp 42), type := 22, pos := "nested.go:46", after := #[{ on := 3, ground := Ground.data }], guard := none }) rfl (by kernel_rfl) (by kernel_rfl) (by kernel_rfl) (fun _ _ _ h => h) (YS.val (by rfl) (fun u hu => by have hc2 := HC2.out u hu; go_simp)) ?_
      simp only [Act.put, List.setIfInBounds_toArray, List.set_cons_zero, List.set_cons_succ]
      refine wpS_take 5 (v := .slice (some ⟨ga, oa, none⟩) n c) (oi := { dst := some 44, op := Op.move (Operand.tmp 1), type := 24, pos := "nested.go:46", after := #[], guard := none }) rfl (by kernel_rfl) (by kernel_rfl) (by kernel_rfl) (fun _ _ _ h => h) (YS.val (by rfl) (fun _ _ => rfl)) ?_
      simp only [Act.put, List.setIfInBounds_toArray, List.set_cons_zero, List.set_cons_succ]
      refine wpS_take 6 (v := .int .i64 (i : Int)) (oi := { dst := some 45, op := Op.move (Operand.tmp 5), type := 3, pos := "nested.go:46", after := #[], guard := none }) rfl (by kernel_rfl) (by kernel_rfl) (by kernel_rfl) (fun _ _ _ h => h) (YS.val (by rfl) (fun _ _ => rfl)) ?_
      simp only [Act.put, List.setIfInBounds_toArray, List.set_cons_zero, List.set_cons_succ]
      refine wpS_take 7 (v := .pointer (some ⟨ga, oa + i, none⟩)) (oi := { dst := some 46, op := Op.indexAddr 24 (Operand.tmp 44) (Operand.tmp 45), type := 0, pos := "nested.go:46", after := #[{ on := 5, ground := Ground.data }, { on := 6, ground := Ground.data }], guard := none }) rfl (by kernel_rfl) (by kernel_rfl) (by kernel_rfl) (fun _ _ _ h => h) (YS.val (by rfl) (fun _ _ => by go_simp)) ?_
      simp only [Act.put, List.setIfInBounds_toArray, List.set_cons_zero, List.set_cons_succ]
      refine wpS_take 8 (v := .slice sa m sc) (oi := { dst := some 47, op := Op.load 22 (Operand.tmp 46), type := 22, pos := "nested.go:46", after := #[{ on := 7, ground := Ground.data }], guard := none }) rfl (by kernel_rfl) (by kernel_rfl) (by kernel_rfl) (fun _ _ _ h => h) (YS.val (by rfl) (fun u hu => by have hc3 := HC3.out u hu; go_simp)) ?_
      simp only [Act.put, List.setIfInBounds_toArray, List.set_cons_zero, List.set_cons_succ]
      refine wpS_take 9 (v := .bool true) (oi := { dst := some 48, op := Op.call { callee := Callee.value (Operand.func 16), args := #[Operand.tmp 43, Operand.tmp 47], argTypes := #[22, 22] }, type := 4, pos := "nested.go:46", after := #[{ on := 4, ground := Ground.data }, { on := 8, ground := Ground.data }], guard := none }) rfl (by kernel_rfl) (by kernel_rfl) (by kernel_rfl) (fun _ _ _ h => h) (YS.call (f := 16) (args := #[.slice ea em ec, .slice sa m sc]) (by rfl) (fun _ => by go_simp) (fun u hu => (HKB.out u hu).mono fun _ _ h => ⟨h.1, grownBy_trans hu h.2⟩)) ?_
      simp only [Act.put, List.setIfInBounds_toArray, List.set_cons_zero, List.set_cons_succ]
      refine wpS_take 10 (v := .bool false) (oi := { dst := some 49, op := Op.unOp UnOp.not 4 (Operand.tmp 48), type := 4, pos := "nested.go:46", after := #[{ on := 9, ground := Ground.data }], guard := none }) rfl (by kernel_rfl) (by kernel_rfl) (by kernel_rfl) (fun _ _ _ h => h) (YS.val (by rfl) (fun _ _ => by go_simp)) ?_
      simp only [Act.put, List.setIfInBounds_toArray, List.set_cons_zero, List.set_cons_succ]
      refine wpS_done (by kernel_rfl) (fun u4 hS4 => ?_) _
      have HR4 := Lib.hid (HR.out.grown hS4)
      have HG4 := Lib.hid (grownBy_trans HG.out hS4)
      clear hS4 HC1 HC2 HC3 HKB HR HG
      go_wp2_with fail
      go_roundw
      case rel => exact ⟨i + 1, by omega, by go_num, HR4.out, HG4.out⟩
      case measure => simp [intOf]; omega
    · obtain rfl : i = n := by omega
      go_wp2_with fail
      go_loopw [6] (fun vj wr2 => ∃ j : Nat, j ≤ 70 ∧ vj = .int .i64 j ∧ Row wr2 b2 36 #[.slice (some ⟨gF, 0, none⟩) i cF, .slice (some ⟨gF, 0, none⟩) (i + 70) cF, .slice aE i cE] ∧ w.grownBy wr2 none) (fun vj _ => 70 - (intOf vj).toNat)
      case atStart => exact ⟨0, by omega, rfl, HR.out, HG.out⟩
      case round =>
        obtain ⟨j, hj, rfl, hr, hg⟩ := hrel
        replace HR := Lib.hid hr
        replace HG := Lib.hid hg
        clear hr hg
        by_cases hlt2 : j < 70
        · obtain ⟨h1, h2⟩ := HM.out j (by rw [HML.out]; exact hlt2)
          have hget : (preS Es ++ Ms)[i + j]? = some (Ms[j]'(by rw [HML.out]; exact hlt2)) := by
            rw [List.getElem?_append_right (by rw [preS_len, HEL.out]; omega), preS_len, HEL.out, Nat.add_sub_cancel_left]
            exact List.getElem?_eq_getElem _
          obtain ⟨g', e', c4, _⟩ := sown_cell (Own.ch HF.out (Ch.ofNone HG.out (fun _ => False)) (fun _ _ _ h => h) : SOwn wr base (some ⟨gF, 0, none⟩) (i + 70) cF (preS Es ++ Ms)) (i + j) _ hget
          injection e' with e'; injection e' with e'
          subst e'
          obtain ⟨s, hs⟩ : ∃ s, s = Ms[j]'(by rw [HML.out]; exact hlt2) := ⟨_, rfl⟩
          rw [← hs] at h1 h2 c4
          obtain ⟨ma, mn, mc⟩ := s
          have h2' : mn = 2 := h2
          subst h2'
          have h1' : BOwn w base ma 2 mc [UInt8.ofNat j, 99] := h1
          have hl1 := BOwn.lies (BOwn.grown h1' HG.out)
          obtain ⟨gm, om, hma, cm0⟩ := hl1 0 (by simp)
          obtain ⟨gm', om', hma', cm1⟩ := hl1 1 (by simp)
          subst hma
          injection hma' with hma'; injection hma' with e1 e2
          subst e1; subst e2
          have hz : ((UInt8.ofNat j).toNat : Int) = (j : Int) := by rw [UInt8.toNat_ofNat']; omega
          have cm0' : wr.cell? ⟨gm, om, none⟩ = some (.int .u8 (j : Int)) := by rw [← hz]; simpa using cm0
          have cm1' : wr.cell? ⟨gm, om + 1, none⟩ = some (.int .u8 99) := by simpa using cm1
          have c5 : wr.cell? ⟨gF, i + j, none⟩ = some (.slice (some ⟨gm, om, none⟩) 2 mc) := c4
          have c1 := Row.cell HR.out 1
          simp at c1
          have hwj : IntKind.u8.wrap (j : Int) = (j : Int) := IntWalk.u8_in _ (by omega)
          have hw2 : IntKind.i64.wrap ((i : Int) + (j : Int)) = (i : Int) + (j : Int) := IntWalk.i64_in _ (by omega)
          have hb1 : (0 : Int) ≤ (i : Int) + (j : Int) := by omega
          have hb2 : (i : Int) + (j : Int) < (i : Int) + 70 := by omega
          have hb2' : (i : Int) + (j : Int) < ((i + 70 : Nat) : Int) := by omega
          have hb3 : ((i : Int) + (j : Int)).toNat = i + j := by omega
          clear h1 h2 hget c4 hs h1' hl1 cm0 cm1 hz
          go_wp2_with fail
          go_roundw
          case rel => exact ⟨j + 1, by omega, by go_num, HR.out, HG.out⟩
          case measure => simp [intOf]; omega
        · obtain rfl : j = 70 := by omega
          go_wp2_with fail
          go_ret
          exact ⟨rfl, HG.out⟩

end Go.Proofs.Ytfboddnpkaiifaa
