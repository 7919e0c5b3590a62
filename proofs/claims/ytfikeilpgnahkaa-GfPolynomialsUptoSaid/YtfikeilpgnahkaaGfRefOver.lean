/- the document's Over: it comes to the same quotient and rest. -/
import Derived.Test.YtfikeilpgnahkaaGfPoly
namespace Go.Proofs.Ytfikeilpgnahkaa
open Go.RowKit Go.Shelf

def slLen (v : Value) : Nat := match v with
  | .slice _ k _ => k
  | _ => 0

set_option maxRecDepth 100000 in
set_option maxHeartbeats 2000000 in
theorem refOver_n (aa ab : Option Addr) (ca cb n m : Nat) (a b : List UInt8) (w : World) (ha : BLies w aa a) (hb : BLies w ab b) (hla : a.length = n) (hlb : b.length = m) (hn : n ≤ 4000000000) (hm : m ≤ 4000000000) (hca : n ≤ ca) (hcb : m ≤ cb) :
    Calls Try.prog 46 #[.slice aa n ca, .slice ab m cb] w fun e w' => ∃ aq nq cq ar nr cr, e = .returned (.tuple #[.slice aq nq cq, .slice ar nr cr, .int .i64 (ovE a b : Nat)]) ∧ BOwn w' w.heap.size aq nq cq (ovQ a b) ∧ BOwn w' w.heap.size ar nr cr (ovR a b) ∧ (∀ g, In aq cq g → ¬ In ar cr g) ∧ w.grownBy w' none := by
  have hta := trimN_le a n
  have htb := trimN_le b m
  obtain ⟨p, hp⟩ : ∃ p, p = trimN a n := ⟨_, rfl⟩
  obtain ⟨q, hq⟩ : ∃ q, q = trimN b m := ⟨_, rfl⟩
  obtain ⟨A, hA⟩ : ∃ A, A = trimL a := ⟨_, rfl⟩
  obtain ⟨B, hB⟩ : ∃ B, B = trimL b := ⟨_, rfl⟩
  have hpl : A.length = p := by rw [hA, trimL_len, hla, hp]
  have hql : B.length = q := by rw [hB, trimL_len, hlb, hq]
  have hE : ovE a b = if p ≤ 256 ∧ q ≤ 256 then (if q = 0 then 60 else 0) else 61 := by unfold ovE; rw [← hA, ← hB, hpl, hql]
  have hQ : ovQ a b = if ovE a b = 0 ∧ q ≤ p then trimL (ovS (ovK A B) A B (ovK A B)).1 else [] := by unfold ovQ; rw [← hA, ← hB, hpl, hql]
  have hR : ovR a b = if ovE a b = 0 then (if q ≤ p then trimL (ovS (ovK A B) A B (ovK A B)).2 else A) else [] := by unfold ovR; rw [← hA, ← hB, hpl, hql]
  have hAA : trimL A = A := by rw [hA, trimL_twice]
  have hBt : 0 < q → B.getD (q - 1) 0 ≠ 0 := by intro h; rw [← hql] at h ⊢; rw [hB] at h ⊢; exact trimL_top b h
  rw [← hp] at hta
  rw [← hq] at htb
  have ct1 := cut_n aa ca n a w ha hla (by unfold maxLen; omega) hca
  have ct2 := cut_n ab cb m b w hb hlb (by unfold maxLen; omega) hcb
  rw [← hp] at ct1
  rw [← hq] at ct2
  have CT1 := Lib.hid ct1
  have CT2 := Lib.hid ct2
  have HTA : Hid (BLies w aa A) := Lib.hid (by rw [hA]; unfold trimL; exact ha.take _)
  have HTB : Hid (BLies w ab B) := Lib.hid (by rw [hB]; unfold trimL; exact hb.take _)
  have HPL := Lib.hid hpl
  have HQL := Lib.hid hql
  have hKK : ovK A B = p - q + 1 := by unfold ovK; rw [hpl, hql]
  have HE := Lib.hid hE
  have HQ := Lib.hid hQ
  have HRR := Lib.hid hR
  have HKK := Lib.hid hKK
  have HAA := Lib.hid hAA
  have HBT := Lib.hid hBt
  clear ha hb hla hlb hp hq hpl hql ct1 ct2 hA hB hE hQ hR hKK hAA hBt
  by_cases h1 : p ≤ 256 ∧ q ≤ 256
  · have hd1 : decide ((256 : Int) < (p : Int)) = false := by simp; omega
    have hd2 : decide ((256 : Int) < (q : Int)) = false := by simp; omega
    rcases Nat.eq_zero_or_pos q with rfl | hqp
    · have hE0 : ovE a b = 60 := by rw [HE.out, if_pos h1]; rfl
      have hQ0 : ovQ a b = [] := by rw [HQ.out, hE0]; rfl
      have hR0 : ovR a b = [] := by rw [HRR.out, hE0]; rfl
      rw [hE0, hQ0, hR0]
      go_enter Try.func46, Try.ntmps46
      go_wp2_with fail
      refine CT1.out.mono ?_
      rintro e w' ⟨rfl, rfl⟩
      go_wp2_with fail
      refine CT2.out.mono ?_
      rintro e w' ⟨rfl, rfl⟩
      go_wp2_with fail
      go_ret3
      exact ⟨none, 0, 0, none, 0, 0, rfl, Own.nil _ _ _ _ _, Own.nil _ _ _ _ _, fun g h => absurd h.1 (by simp), World.grownBy.refl _ _⟩
    · have hE0 : ovE a b = 0 := by rw [HE.out, if_pos h1, if_neg (by omega)]
      have hq0 : ((q : Int) == 0) = false := by simp; omega
      obtain ⟨iu, hiu, hiuz, hius, hiub⟩ := info_parts (show (Try.prog.info? 5).map (fun i => (i.zero, i.size, i.bytes)) = some (some (.int .u8 0), 1, 1) by kernel_rfl)
      by_cases hlt : p < q
      · have hdl : decide ((q : Int) ≤ (p : Int)) = false := by simp; omega
        have hQ0 : ovQ a b = [] := by rw [HQ.out, if_neg (by omega)]
        have hR0 : ovR a b = A := by rw [HRR.out, if_pos hE0, if_neg (by omega)]
        rw [hE0, hQ0, hR0]
        rcases Nat.eq_zero_or_pos p with rfl | hpp
        · have hA0 : A = [] := List.eq_nil_of_length_eq_zero HPL.out
          rw [hA0]
          have hdl2 : decide ((q : Int) ≤ (0 : Int)) = false := by simp; omega
          go_enter Try.func46, Try.ntmps46
          go_wp2_with fail
          refine CT1.out.mono ?_
          rintro e w' ⟨rfl, rfl⟩
          go_wp2_with fail
          refine CT2.out.mono ?_
          rintro e w' ⟨rfl, rfl⟩
          go_wp2_with (at_builtin; refine Lib.wpList_append_run _ rfl _ _ _ _ rfl _ _ rfl rfl _ _ (run_app_none _ _ _ _) ?_)
          go_loopw [7] (fun v wr => v = .slice none 0 0 ∧ wr = w) (fun _ _ => 0)
          case atStart => exact ⟨rfl, rfl⟩
          case round =>
            obtain ⟨rfl, rfl⟩ := hrel
            go_wp2_with (go_at_call 58; refine (cut_n none 0 0 [] _ (fun k h => absurd h (by simp)) rfl (by unfold maxLen; omega) (Nat.le_refl _)).mono ?_; rintro e w' ⟨rfl, rfl⟩)
            go_ret3
            exact ⟨none, 0, 0, none, 0, 0, rfl, Own.nil _ _ _ _ _, Own.nil _ _ _ _ _, fun g h => absurd h.1 (by simp), World.grownBy.refl _ _⟩
        · obtain ⟨ga, oa, haa⟩ : ∃ g o, aa = some ⟨g, o, none⟩ := by
            obtain ⟨g, o, e, _⟩ := HTA.out 0 (by rw [HPL.out]; omega)
            exact ⟨g, o, e⟩
          subst haa
          have happS : ∀ j u, (A.map bval)[j]? = some u → w.cell? ((⟨ga, oa, none⟩ : Addr).add j) = some u := by
            intro j u hu
            obtain ⟨hj, rfl⟩ := List.getElem?_eq_some_iff.1 hu
            obtain ⟨g, o, e, hc⟩ := HTA.out j (by simpa using hj)
            injection e with e; injection e with e1 e2
            subst e1; subst e2
            have hadd : (⟨ga, oa, none⟩ : Addr).add j = ⟨ga, oa + j, none⟩ := by unfold Addr.add; split <;> simp_all
            rw [hadd, hc]; simp [bval]
          have HAP := Lib.hid happS
          have hone : ∀ u ∈ A.map bval, u.oneCell' = true := fun u hu => by obtain ⟨_, _, rfl⟩ := List.mem_map.1 hu; rfl
          have HON := Lib.hid hone
          clear happS hone
          go_enter Try.func46, Try.ntmps46
          go_wp2_with fail
          refine CT1.out.mono ?_
          rintro e w' ⟨rfl, rfl⟩
          go_wp2_with fail
          refine CT2.out.mono ?_
          rintro e w' ⟨rfl, rfl⟩
          go_wp2_with (at_builtin; refine wpList_app elB rfl (.tmp 27) (.tmp 28) rfl rfl (Own.nil w w.heap.size 5 1 none) ⟨ga, oa, none⟩ p ca (A.map bval) rfl (by rw [List.length_map, HPL.out, Nat.mul_one]) HAP.out HON.out (by unfold maxLen; omega) (by omega) (Nat.le_refl _) (by omega) ?_; intro gr cr w1 hown1 hgr1; have HO1 := Lib.hid hown1; have HG1 := Lib.hid (hgr1.grew.grown (Own.nil w w.heap.size 5 1 none) (World.grownBy.refl _ _) (Nat.le_refl _)); clear hown1 hgr1)
          have ho1 := HO1.out
          rw [List.nil_append, Nat.zero_add] at ho1
          have HOD := Lib.hid ho1
          clear ho1 HO1
          try simp only [Nat.zero_add]
          go_loopw [7] (fun v wr => v = .slice (some ⟨gr, 0, none⟩) p cr ∧ wr = w1) (fun _ _ => 0)
          case atStart => exact ⟨rfl, rfl⟩
          case round =>
            obtain ⟨rfl, rfl⟩ := hrel
            go_wp2_with (go_at_call 58; refine (cut_n none 0 0 [] _ (fun k h => absurd h (by simp)) rfl (by unfold maxLen; omega) (Nat.le_refl _)).mono ?_; rintro e w' ⟨rfl, rfl⟩)
            go_ret3
            exact ⟨none, 0, 0, _, _, _, rfl, Own.nil _ _ _ _ _, HOD.out, fun g h => absurd h.1 (by simp), HG1.out⟩
      · have hdl : decide ((q : Int) ≤ (p : Int)) = true := by simp; omega
        obtain ⟨ga, oa, haa⟩ : ∃ g o, aa = some ⟨g, o, none⟩ := by
          obtain ⟨g, o, e, _⟩ := HTA.out 0 (by rw [HPL.out]; omega)
          exact ⟨g, o, e⟩
        subst haa
        have happS : ∀ j u, (A.map bval)[j]? = some u → w.cell? ((⟨ga, oa, none⟩ : Addr).add j) = some u := by
          intro j u hu
          obtain ⟨hj, rfl⟩ := List.getElem?_eq_some_iff.1 hu
          obtain ⟨g, o, e, hc⟩ := HTA.out j (by simpa using hj)
          injection e with e; injection e with e1 e2
          subst e1; subst e2
          have hadd : (⟨ga, oa, none⟩ : Addr).add j = ⟨ga, oa + j, none⟩ := by unfold Addr.add; split <;> simp_all
          rw [hadd, hc]; simp [bval]
        have HAP := Lib.hid happS
        have hone : ∀ u ∈ A.map bval, u.oneCell' = true := fun u hu => by obtain ⟨_, _, rfl⟩ := List.mem_map.1 hu; rfl
        have HON := Lib.hid hone
        obtain ⟨K, hK⟩ : ∃ K, K = p - q + 1 := ⟨_, rfl⟩
        have hw1 : IntKind.i64.wrap ((p : Int) - (q : Int)) = (p : Int) - (q : Int) := IntWalk.i64_in _ (by omega)
        have hw2 : IntKind.i64.wrap ((p : Int) - (q : Int) + 1) = (K : Int) := by rw [show (p : Int) - (q : Int) + 1 = (K : Int) by omega]; exact IntWalk.i64_in _ (by omega)
        have hKi : ((p - q : Nat) : Int) + 1 = (K : Int) := by omega
        have hKi2 : (p : Int) - (q : Int) + 1 = (K : Int) := by omega
        obtain ⟨gb, ob, hbb⟩ : ∃ g o, ab = some ⟨g, o, none⟩ := by
          obtain ⟨g, o, e, _⟩ := HTB.out 0 (by rw [HQL.out]; omega)
          exact ⟨g, o, e⟩
        subst hbb
        obtain ⟨z, hz⟩ : ∃ z, z = B.getD (q - 1) 0 := ⟨_, rfl⟩
        have hcb1 : ∀ (k : Nat) (y : UInt8), k < q → y = B.getD k 0 → ∀ W, w.grownBy W none → W.cell? ⟨gb, ob + k, none⟩ = some (.int .u8 (y.toNat : Int)) := by
          intro k y hk hy W hg
          obtain ⟨g, o, e, hc⟩ := HTB.out.grown hg k (by rw [HQL.out]; omega)
          injection e with e; injection e with e1 e2
          subst e1; subst e2
          rw [hc, hy]; simp [show k < B.length by rw [HQL.out]; omega]
        have HCB := Lib.hid hcb1
        have HZ := Lib.hid hz
        have HK := Lib.hid hK
        have hKp : K ≤ p := by omega
        have HKP := Lib.hid hKp
        have hK1 : 0 < K := by omega
        have HX := Lib.hid (show K + B.length = A.length + 1 by rw [HPL.out, HQL.out]; omega)
        have HZ0 : Hid (B.getD (B.length - 1) 0 ≠ 0) := Lib.hid (by rw [HQL.out]; exact HBT.out hqp)
        have HQ1 : Hid (ovQ a b = trimL (ovS K A B K).1) := Lib.hid (by rw [HQ.out, if_pos ⟨hE0, by omega⟩, HKK.out, ← hK])
        have HR1 : Hid (ovR a b = trimL (ovS K A B K).2) := Lib.hid (by rw [HRR.out, if_pos hE0, if_pos (by omega), HKK.out, ← hK])
        clear happS hone hK hKp hz hcb1
        go_enter Try.func46, Try.ntmps46
        go_wp2_with fail
        refine CT1.out.mono ?_
        rintro e w' ⟨rfl, rfl⟩
        go_wp2_with fail
        refine CT2.out.mono ?_
        rintro e w' ⟨rfl, rfl⟩
        go_wp2_with (first | (at_builtin; refine wpList_app elB rfl (.tmp 27) (.tmp 28) rfl rfl (Own.nil w w.heap.size 5 1 none) ⟨ga, oa, none⟩ p ca (A.map bval) rfl (by rw [List.length_map, HPL.out, Nat.mul_one]) HAP.out HON.out (by unfold maxLen; omega) (by omega) (Nat.le_refl _) (by omega) ?_; intro gr cr w1 hown1 hgr1; have HO1 := Lib.hid hown1; have HG1 := Lib.hid (hgr1.grew.grown (Own.nil w w.heap.size 5 1 none) (World.grownBy.refl _ _) (Nat.le_refl _)); clear hown1 hgr1) | (refine wpList_mkB rfl _ _ 33 rfl 5 Try.underlying33 hiu hiuz hius hiub K rfl rfl (by omega) ?_; intro W3 hs3 hg3 hr3; have HQ3 := Lib.hid hr3; have HG3 := Lib.hid (grownBy_trans HG1.out hg3); have HO3 := Lib.hid (Own.ch HO1.out (Ch.ofNone hg3 (fun _ => False)) (fun _ _ _ h => h)); clear hg3 hr3 hs3))
        obtain ⟨gq, hgq⟩ : ∃ gq, gq = w1.heap.size := ⟨_, rfl⟩
        have hinr := Own.inn HO1.out (g := gr) ⟨by have := HO1.out.cap; omega, rfl⟩
        have hlt1 : gr < gq := by rw [hgq]; exact hinr.2
        have hwb : w.heap.size ≤ gr := hinr.1
        rw [← hgq]
        rw [← hgq] at HQ3
        have ho3 := HO3.out
        rw [Nat.zero_add, List.nil_append] at ho3
        have HO5 : Hid (BOwn W3 w.heap.size (some ⟨gr, 0, none⟩) p cr A) := Lib.hid ho3
        have hpc : p ≤ cr := HO5.out.cap.1
        try simp only [Nat.zero_add]
        clear hgq HO3 HO1 HG1 HAP HON ho3 hinr
        go_loopw [7] (fun v wr => ∃ j L : Nat, j ≤ K ∧ L = (trimL (ovS K A B j).2).length ∧ L ≤ p ∧ v = .slice (some ⟨gr, 0, none⟩) L cr ∧ BOwn wr w.heap.size (some ⟨gr, 0, none⟩) L cr (trimL (ovS K A B j).2) ∧ BRow wr gq 5 (ovS K A B j).1 ∧ w.grownBy wr none) (fun v _ => slLen v)
        case atStart =>
          refine ⟨0, p, by omega, ?_, Nat.le_refl _, rfl, ?_, HQ3.out, HG3.out⟩
          · show p = (trimL A).length
            rw [HAA.out, HPL.out]
          · show BOwn W3 w.heap.size (some ⟨gr, 0, none⟩) p cr (trimL A)
            rw [HAA.out]
            exact HO5.out
        case round =>
          obtain ⟨j, L, hj, hL, hLp, rfl, hro, hrq, hg⟩ := hrel
          obtain ⟨r, hr⟩ : ∃ r, r = trimL (ovS K A B j).2 := ⟨_, rfl⟩
          obtain ⟨ql, hql⟩ : ∃ ql, ql = (ovS K A B j).1 := ⟨_, rfl⟩
          have hqll : ql.length = K := by rw [hql, ovS_len1]
          have hend := ov_end K A B (by rw [HQL.out]; exact hqp) HX.out j hj
          have hrnd := ov_round K A B (by rw [HQL.out]; exact hqp) HX.out HZ0.out j hj L hL
          rw [← hr, HQL.out] at hend
          rw [← hr, ← hql, HQL.out] at hrnd
          rw [← hr] at hro hL
          rw [← hql] at hrq
          have HRO := Lib.hid hro
          have HRQ := Lib.hid hrq
          have HG := Lib.hid hg
          have HL := Lib.hid hL
          have HEND := Lib.hid hend
          have HRND := Lib.hid hrnd
          have HQLL := Lib.hid hqll
          have HRE := Lib.hid hr
          have HQE := Lib.hid hql
          clear hro hrq hg HO5 HQ3 HG3 hend hrnd hr hql hqll hL
          by_cases hLq : q ≤ L
          · have hdl2 : decide ((q : Int) ≤ (L : Int)) = true := by simp; omega
            obtain ⟨nn, hnn⟩ : ∃ nn, nn = L - q := ⟨_, rfl⟩
            have hnK : nn < K := by have := HX.out; rw [HPL.out, HQL.out] at this; omega
            obtain ⟨v, hv⟩ : ∃ v, v = r.getD (L - 1) 0 := ⟨_, rfl⟩
            obtain ⟨f, hf⟩ : ∃ f, f = gm v (ginv z) := ⟨_, rfl⟩
            have hrn := HRND.out hLq
            rw [← hnn, ← hv, ← HZ.out, ← hf] at hrn
            have HRN := Lib.hid hrn
            have HF := Lib.hid hf
            have hw3 : IntKind.i64.wrap ((L : Int) - (q : Int)) = (nn : Int) := by rw [show (L : Int) - (q : Int) = (nn : Int) by omega]; exact IntWalk.i64_in _ (by omega)
            have hw4 : IntKind.i64.wrap ((L : Int) - 1) = ((L - 1 : Nat) : Int) := by rw [show (L : Int) - 1 = ((L - 1 : Nat) : Int) by omega]; exact IntWalk.i64_in _ (by omega)
            have hw5 : IntKind.i64.wrap ((q : Int) - 1) = ((q - 1 : Nat) : Int) := by rw [show (q : Int) - 1 = ((q - 1 : Nat) : Int) by omega]; exact IntWalk.i64_in _ (by omega)
            obtain ⟨t, ht⟩ : ∃ t, t = L - 1 := ⟨_, rfl⟩
            obtain ⟨s, hs⟩ : ∃ s, s = q - 1 := ⟨_, rfl⟩
            have hbz := HCB.out s z (by omega) (by rw [hs]; exact HZ.out) wr HG.out
            have htl : t < (r.map bval).length := by rw [List.length_map, ← HL.out]; omega
            obtain ⟨g', e1, _, _, hc, _⟩ := Own.cell HRO.out t htl
            injection e1 with e1; injection e1 with e1
            subst e1
            have hvv : (r.map bval)[t] = .int .u8 (v.toNat : Int) := by
              have htr : t < r.length := by simpa using htl
              rw [List.getElem_map, hv, ← ht]; simp [bval, htr]
            rw [hvv] at hc
            have htL : t < L := by omega
            have hsq : s < q := by omega
            rw [← ht] at hw4
            rw [← hs] at hw5
            have HNN := Lib.hid hnn
            clear hnn hrn hf htl hvv hv ht hs
            go_wp2_with fail
            go_quiet (first | (go_at_call 51; exact quietS (refInverse_i _ z _ rfl)) | (go_at_call 18; exact quietS (refMul_i _ _ v (ginv z) _ rfl rfl)))
            rw [← HF.out]
            obtain ⟨W5, hW5⟩ : ∃ W5, W5 = wr.drewN nq := ⟨_, rfl⟩
            rw [← hW5]
            have hg5 : wr.grownBy W5 none := hW5 ▸ grownBy_drewN wr nq none
            have HRO5 := Lib.hid (Own.ch HRO.out (Ch.ofNone hg5 (fun _ => False)) (fun _ _ _ h => h))
            have HRQ5 := Lib.hid (HRQ.out.grown hg5)
            have HG5 := Lib.hid (grownBy_trans HG.out hg5)
            have hil : nn < ql.length := by rw [HQLL.out]; exact hnK
            have cq5 := HRQ5.out.cell nn hil
            have fq5 := HRQ5.out.frozen nn
            have hgl := HRQ5.out.lt
            clear hc hbz hg5 hW5 hw3 hw4 hw5
            go_wp2_with fail
            obtain ⟨W6, hW6⟩ : ∃ W6, W6 = W5.setCell ⟨gq, nn, none⟩ (.int .u8 (f.toNat : Int)) := ⟨_, rfl⟩
            rw [← hW6]
            have hg6 : W5.grownBy W6 (some gq) := hW6 ▸ grownBy_setCell _ _ _ _
            have HQ6 := Lib.hid (show BRow W6 gq 5 (ql.set nn f) from hW6 ▸ BRow.set HRQ5.out nn f)
            have ho6 : Own W6 w.heap.size 5 1 (some ⟨gr, 0, none⟩) L cr (r.map bval) := Own.ch HRO5.out (Ch.ofSome (S := fun k => k = gq) hg6 rfl) (fun _ g e h => by injection e with e; injection e with e; omega)
            have HO6 : Hid (BOwn W6 w.heap.size (some ⟨gr, 0, none⟩) L cr r) := Lib.hid ho6
            have HG6 := Lib.hid (grownBy_old HG5.out hg6 (by omega))
            clear ho6 hg6 hW6 cq5 fq5 HRO HRQ HG HRO5 HRQ5 HG5 hgl
            go_loopw [11] (fun vj wr2 => ∃ k : Nat, k ≤ q ∧ vj = .int .i64 k ∧ BOwn wr2 w.heap.size (some ⟨gr, 0, none⟩) L cr (inF nn f B r k) ∧ BRow wr2 gq 5 (ql.set nn f) ∧ w.grownBy wr2 none) (fun vj _ => q - (intOf vj).toNat)
            case atStart => exact ⟨0, by omega, rfl, HO6.out, HQ6.out, HG6.out⟩
            case round =>
              obtain ⟨k, hk, rfl, hr2, hq2, hg2⟩ := hrel
              by_cases hkq : k < q
              · have hij : nn + k < L := by have := HNN.out; omega
                obtain ⟨y, hy⟩ : ∃ y, y = B.getD k 0 := ⟨_, rfl⟩
                obtain ⟨l1, hl1⟩ : ∃ l1, l1 = inF nn f B r k := ⟨_, rfl⟩
                have hl1l : l1.length = L := by rw [hl1, inF_len]; exact HL.out.symm
                have hst : inF nn f B r (k + 1) = l1.set (nn + k) (l1.getD (nn + k) 0 ^^^ gm f y) := by rw [inF, ← hl1, ← hy]
                rw [← hl1] at hr2
                obtain ⟨u, hu⟩ : ∃ u, u = l1.getD (nn + k) 0 := ⟨_, rfl⟩
                rw [← hu] at hst
                have hilm : nn + k < (l1.map bval).length := by rw [List.length_map, hl1l]; exact hij
                have hr3 : BOwn wr.drew w.heap.size (some ⟨gr, 0, none⟩) L cr l1 := Own.ch hr2 (Ch.ofNone (show wr.grownBy wr.drew none from ⟨rfl, rfl, rfl, Nat.le_refl _, fun _ _ _ => rfl⟩) (fun _ => False)) (fun _ _ _ h => h)
                obtain ⟨g', e1, _, _, hcv, hfv⟩ := Own.cell hr3 (nn + k) hilm
                injection e1 with e1; injection e1 with e1
                subst e1
                have hvv : (l1.map bval)[nn + k] = .int .u8 (u.toNat : Int) := by
                  have : nn + k < l1.length := by omega
                  rw [List.getElem_map, hu]; simp [bval, this]
                rw [hvv] at hcv
                have hset := Own.set hr3 (nn + k) hilm (.int .u8 ((u ^^^ gm f y).toNat : Int))
                have hmm : (l1.map bval).set (nn + k) (.int .u8 ((u ^^^ gm f y).toNat : Int)) = (l1.set (nn + k) (u ^^^ gm f y)).map bval := by rw [List.map_set]; rfl
                rw [hmm] at hset
                have HS := Lib.hid hset
                have hcy : wr.drew.cell? ⟨gb, ob + k, none⟩ = some (.int .u8 (y.toNat : Int)) := HCB.out k y hkq hy wr hg2
                have hw : IntKind.i64.wrap ((nn : Int) + (k : Int)) = (nn : Int) + (k : Int) := IntWalk.i64_in _ (by omega)
                have hb1 : (0 : Int) ≤ (nn : Int) + (k : Int) := by omega
                have hb2 : (nn : Int) + (k : Int) < (L : Int) := by omega
                have hb3 : ((nn : Int) + (k : Int)).toNat = nn + k := by omega
                have hxx := xor_u8 u (gm f y)
                have HST2 := Lib.hid hst
                have HQ2 : Hid (BRow wr.drew gq 5 (ql.set nn f)) := Lib.hid hq2
                have HG2 : Hid (w.grownBy wr.drew none) := Lib.hid ⟨hg2.os, hg2.tape, hg2.output, hg2.size, hg2.block⟩
                clear hr2 hr3 hq2 hg2 hy hl1 hu hst hl1l hset hmm hvv hilm HO6 HQ6 HG6
                go_wp2_with fail
                refine wp_region_still_tail 18 (by kernel_rfl) (by kernel_rfl) ?_
                simp only [List.take_succ_cons, List.take_zero, List.drop_succ_cons, List.drop_zero]
                change wpStill _ _ wr.drew (fun a' => wpList _ _ _ _ a' wr.drew) _ _
                generalize wr.drew = W2 at *
                repeat still_step
                still_call ((refMul_i _ _ f y _ rfl rfl).mono (fun _ _ h => ⟨h.1, h.2.symm⟩))
                repeat still_step
                refine wpStill_nil ?_
                clear hcy hxx
                go_wp2_with fail
                go_roundw
                case rel =>
                  refine ⟨k + 1, by omega, by go_num, ?_, ?_, grownBy_old HG2.out (grownBy_setCell _ _ _ _) hwb⟩
                  · rw [HST2.out, ← UInt8.toNat_xor]
                    exact HS.out
                  · exact HQ2.out.grownNe (grownBy_setCell _ _ _ _) (by omega)
                case measure => simp [intOf]; omega
              · obtain rfl : k = q := by omega
                obtain ⟨l1, hl1⟩ : ∃ l1, l1 = inF nn f B r k := ⟨_, rfl⟩
                have hl1l : l1.length = L := by rw [hl1, inF_len]; exact HL.out.symm
                obtain ⟨j', hj', h1, h2, h3⟩ := HRN.out
                rw [← hl1] at h2 hr2
                rw [h2] at h3
                have ht1 := trimL_len l1
                rw [hl1l] at ht1
                rw [ht1] at h3
                have hle := trimN_le l1 L
                have HR2 := Lib.hid hr2
                have HQ2 := Lib.hid hq2
                have HG2 := Lib.hid hg2
                have H1 := Lib.hid h1
                have H2 := Lib.hid h2
                have HT := Lib.hid ht1
                have HLL := Lib.hid hl1l
                clear hr2 hq2 hg2 h1 h2 ht1 hl1l hl1 HO6 HQ6 HG6
                go_wp2_with (go_at_call 58; refine (cut_n (some ⟨gr, 0, none⟩) cr L l1 _ (BOwn.lies HR2.out) HLL.out (by unfold maxLen; omega) (by omega)).mono ?_; rintro e w' ⟨rfl, rfl⟩)
                go_roundw
                case rel =>
                  refine ⟨j', trimN l1 L, hj', by rw [H2.out, HT.out], by omega, rfl, ?_, by rw [H1.out]; exact HQ2.out, HG2.out⟩
                  rw [H2.out]
                  unfold trimL
                  rw [HLL.out]
                  exact Own.takeN HR2.out _ hle
                case measure => simp [slLen]; omega
          · have hdl2 : decide ((q : Int) ≤ (L : Int)) = false := by simp; omega
            have he := HEND.out (by have := HL.out; omega)
            have hQ0 : ovQ a b = ql.take (trimN ql K) := by
              rw [HQ1.out, he, ← HQE.out]; unfold trimL; rw [HQLL.out]
            have hR0 : ovR a b = r := by rw [HR1.out, he, ← HRE.out]
            have HQ0 := Lib.hid hQ0
            have HR0 := Lib.hid hR0
            have HE0 := Lib.hid hE0
            have htl := trimN_le ql K
            clear hQ0 hR0 hE0 he
            go_wp2_with (go_at_call 58; refine (cut_n (some ⟨gq, 0, none⟩) K K ql _ (BRow.lies HRQ.out) HQLL.out (by unfold maxLen; omega) (Nat.le_refl _)).mono ?_; rintro e w' ⟨rfl, rfl⟩)
            go_ret3
            refine ⟨_, _, _, _, _, _, by rw [HE0.out]; rfl, ?_, ?_, ?_, HG.out⟩
            · rw [HQ0.out]
              exact BRow.ownTake HRQ.out (by omega) _ _ HQLL.out htl (by unfold maxLen; omega)
            · rw [HR0.out]
              exact HRO.out
            · rintro g ⟨_, h3⟩ ⟨_, h4⟩
              injection h3 with h3; injection h3 with h3
              injection h4 with h4; injection h4 with h4
              omega
  · have hE0 : ovE a b = 61 := by rw [HE.out, if_neg h1]
    have hQ0 : ovQ a b = [] := by rw [HQ.out, hE0]; rfl
    have hR0 : ovR a b = [] := by rw [HRR.out, hE0]; rfl
    rw [hE0, hQ0, hR0]
    by_cases h2 : p ≤ 256
    · have hd1 : decide ((256 : Int) < (p : Int)) = false := by simp; omega
      have hd2 : decide ((256 : Int) < (q : Int)) = true := by simp; omega
      go_enter Try.func46, Try.ntmps46
      go_wp2_with fail
      refine CT1.out.mono ?_
      rintro e w' ⟨rfl, rfl⟩
      go_wp2_with fail
      refine CT2.out.mono ?_
      rintro e w' ⟨rfl, rfl⟩
      go_wp2_with fail
      go_ret3
      exact ⟨none, 0, 0, none, 0, 0, rfl, Own.nil _ _ _ _ _, Own.nil _ _ _ _ _, fun g h => absurd h.1 (by simp), World.grownBy.refl _ _⟩
    · have hd1 : decide ((256 : Int) < (p : Int)) = true := by simp; omega
      go_enter Try.func46, Try.ntmps46
      go_wp2_with fail
      refine CT1.out.mono ?_
      rintro e w' ⟨rfl, rfl⟩
      go_wp2_with fail
      refine CT2.out.mono ?_
      rintro e w' ⟨rfl, rfl⟩
      go_wp2_with fail
      go_ret3
      exact ⟨none, 0, 0, none, 0, 0, rfl, Own.nil _ _ _ _ _, Own.nil _ _ _ _ _, fun g h => absurd h.1 (by simp), World.grownBy.refl _ _⟩

end Go.Proofs.Ytfikeilpgnahkaa
