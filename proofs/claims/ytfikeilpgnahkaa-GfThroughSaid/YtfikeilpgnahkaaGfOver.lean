/- gf: Over. -/
import Derived.Test.YtfikeilpgnahkaaGfThrough
import Derived.Deep.RegionWith
namespace Go.Proofs.Ytfikeilpgnahkaa
open Go.RowKit Go.Shelf

/-- quotient and rest behind j rounds of the division, the quotient of K coefficients -/
def ovS (K : Nat) (a b : List UInt8) : Nat → List UInt8 × List UInt8
  | 0 => (List.replicate K 0, a)
  | j + 1 => ((ovS K a b j).1.set (K - 1 - j) (gm ((ovS K a b j).2.getD (K - 1 - j + b.length - 1) 0) (ginv (b.getD (b.length - 1) 0))),
      inF (K - 1 - j) (gm ((ovS K a b j).2.getD (K - 1 - j + b.length - 1) 0) (ginv (b.getD (b.length - 1) 0))) b (ovS K a b j).2 b.length)
theorem ovS_len1 (K : Nat) (a b : List UInt8) : ∀ j, (ovS K a b j).1.length = K
  | 0 => by simp [ovS]
  | j + 1 => by rw [ovS, List.length_set, ovS_len1 K a b j]
theorem ovS_len2 (K : Nat) (a b : List UInt8) : ∀ j, (ovS K a b j).2.length = a.length
  | 0 => rfl
  | j + 1 => by rw [ovS, inF_len, ovS_len2 K a b j]
def ovK (a b : List UInt8) : Nat := a.length - b.length + 1
def ovE (a b : List UInt8) : Nat := if (trimL a).length ≤ 256 ∧ (trimL b).length ≤ 256 then (if (trimL b).length = 0 then 60 else 0) else 61
def ovQ (a b : List UInt8) : List UInt8 := if ovE a b = 0 ∧ (trimL b).length ≤ (trimL a).length then trimL (ovS (ovK (trimL a) (trimL b)) (trimL a) (trimL b) (ovK (trimL a) (trimL b))).1 else []
def ovR (a b : List UInt8) : List UInt8 := if ovE a b = 0 then (if (trimL b).length ≤ (trimL a).length then trimL (ovS (ovK (trimL a) (trimL b)) (trimL a) (trimL b) (ovK (trimL a) (trimL b))).2 else trimL a) else []

/-- a counter in memory, and one more -/
def iAt (v : Value) (w : World) : Nat := match v with
  | .pointer (some a) => (match w.cell? a with | some (.int _ x) => (x + 1).toNat | _ => 0)
  | _ => 0
theorem iAt_eq {b : Nat} {t : TypeId} {k : IntKind} {x : Int} {w : World} (h : Row w b t #[.int k x]) : iAt (.pointer (some ⟨b, 0, none⟩)) w = (x + 1).toNat := by
  have := Row.cell h 0
  simp at this
  unfold iAt
  simp only [this]

theorem Own.takeN {w : World} {base : Nat} {e : TypeId} {a : Option Addr} {n c : Nat} {l : List UInt8} (h : Own w base e 1 a n c (l.map bval)) (k : Nat) (hk : k ≤ n) : Own w base e 1 a k c ((l.take k).map bval) := by
  have hl : l.length = n := by have := h.1; simpa using this
  refine ⟨by simp; omega, ?_⟩
  rcases h.2 with ⟨h0, h1⟩ | ⟨g, cur, ha, hb, hh, hnc, hm, hs, ht⟩
  · exact .inl ⟨by omega, h1⟩
  · refine .inr ⟨g, cur, ha, hb, hh, by omega, hm, hs, ?_⟩
    rw [List.map_take, ← ht, List.take_take]
    congr 1
    omega

set_option maxRecDepth 100000 in
set_option maxHeartbeats 1000000 in
theorem over1_n (b7 bi bf base g n c i j : Nat) (f y : UInt8) (s : List UInt8) (w : World) (ho : Row w b7 33 #[.slice (some ⟨g, 0, none⟩) n c]) (hi : Row w bi 3 #[.int .i64 (i : Int)]) (hx : Row w bf 5 #[.int .u8 (f.toNat : Int)])
    (hr : BOwn w base (some ⟨g, 0, none⟩) n c s) (hij : i + j < n) (hM : n ≤ 4611686018427387904) :
    Calls Try.prog 57 #[.int .i64 (j : Int), .int .u8 (y.toNat : Int), .pointer (some ⟨b7, 0, none⟩), .pointer (some ⟨bi, 0, none⟩), .pointer (some ⟨bf, 0, none⟩)] w fun e w' => e = .returned (.tuple #[]) ∧ BOwn w' base (some ⟨g, 0, none⟩) n c (s.set (i + j) (s.getD (i + j) 0 ^^^ gm f y)) ∧ w.grownBy w' (some g) := by
  have hl : s.length = n := hr.len
  have co : w.drew.cell? ⟨b7, 0, none⟩ = some (.slice (some ⟨g, 0, none⟩) n c) := Row.cell ho 0
  have ci : w.drew.cell? ⟨bi, 0, none⟩ = some (.int .i64 (i : Int)) := Row.cell hi 0
  have cx : w.drew.cell? ⟨bf, 0, none⟩ = some (.int .u8 (f.toNat : Int)) := Row.cell hx 0
  obtain ⟨v, hv⟩ : ∃ v, v = s.getD (i + j) 0 := ⟨_, rfl⟩
  have hil : i + j < (s.map bval).length := by rw [List.length_map]; omega
  obtain ⟨g', e1, _, _, hc, hf⟩ := Own.cell hr (i + j) hil
  injection e1 with e1; injection e1 with e1
  subst e1
  have hvv : (s.map bval)[i + j] = .int .u8 (v.toNat : Int) := by rw [List.getElem_map, hv]; simp [bval, show i + j < s.length by omega]
  rw [hvv] at hc
  have cg : w.drew.cell? ⟨g, i + j, none⟩ = some (.int .u8 (v.toNat : Int)) := hc
  have fg : w.drew.frozen? ⟨g, i + j, none⟩ = false := hf
  have hr' : BOwn w.drew base (some ⟨g, 0, none⟩) n c s := Own.ch hr (Ch.ofNone (show w.grownBy w.drew none from ⟨rfl, rfl, rfl, Nat.le_refl _, fun _ _ _ => rfl⟩) (fun _ => False)) (fun _ _ _ h => h)
  have hset := Own.set hr' (i + j) hil (.int .u8 ((v ^^^ gm f y).toNat : Int))
  have hm : (s.map bval).set (i + j) (.int .u8 ((v ^^^ gm f y).toNat : Int)) = (s.set (i + j) (v ^^^ gm f y)).map bval := by rw [List.map_set]; rfl
  rw [hm] at hset
  have HS := Lib.hid hset
  have hw : IntKind.i64.wrap ((i : Int) + (j : Int)) = (i : Int) + (j : Int) := IntWalk.i64_in _ (by omega)
  have hb1 : (0 : Int) ≤ (i : Int) + (j : Int) := by omega
  have hb2 : (i : Int) + (j : Int) < (n : Int) := by omega
  have hb3 : ((i : Int) + (j : Int)).toNat = i + j := by omega
  have hxx := xor_u8 v (gm f y)
  have hg0 : w.grownBy w.drew (some g) := ⟨rfl, rfl, rfl, Nat.le_refl _, fun _ _ _ => rfl⟩
  have HG := Lib.hid hg0
  rw [← hv]
  clear ho hi hx hr hg0 hv hset hm hvv hc hf hr'
  go_enter Try.func57, Try.ntmps57
  refine wp_region_still_tail 11 (by kernel_rfl) (by kernel_rfl) ?_
  simp only [List.take_succ_cons, List.take_zero, List.drop_succ_cons, List.drop_zero]
  change wpStill _ _ w.drew (fun a' => wpList _ _ _ _ a' w.drew) _ _
  generalize w.drew = W2 at *
  still_step
  still_step
  still_step
  still_step
  still_step
  still_step
  still_step
  still_step
  still_call ((mul_i _ _ f y _ rfl rfl).mono (fun _ _ h => ⟨h.1, h.2.symm⟩))
  still_step
  still_step
  refine wpStill_nil ?_
  go_wp2_with fail
  go_end0
  rw [← UInt8.toNat_xor]
  exact ⟨rfl, HS.out, grownBy_trans HG.out (grownBy_setCell _ _ _ _)⟩

set_option maxRecDepth 100000 in
set_option maxHeartbeats 2000000 in
theorem over_nn (aa ab : Option Addr) (ca cb n m : Nat) (a b : List UInt8) (w : World) (ha : BLies w aa a) (hb : BLies w ab b) (hla : a.length = n) (hlb : b.length = m) (hn : n ≤ 140737488355328) (hm : m ≤ 140737488355328) (hca : n ≤ ca) (hcb : m ≤ cb) :
    Calls Try.prog 44 #[.slice aa n ca, .slice ab m cb] w fun e w' => ∃ aq nq cq ar nr cr, e = .returned (.tuple #[.slice aq nq cq, .slice ar nr cr, .int .i64 (ovE a b : Nat)]) ∧ BOwn w' w.heap.size aq nq cq (ovQ a b) ∧ BOwn w' w.heap.size ar nr cr (ovR a b) ∧ (∀ g, In aq cq g → ¬ In ar cr g) ∧ w.grownBy w' none := by
  have hta := trimN_le a n
  have htb := trimN_le b m
  obtain ⟨p, hp⟩ : ∃ p, p = trimN a n := ⟨_, rfl⟩
  obtain ⟨q, hq⟩ : ∃ q, q = trimN b m := ⟨_, rfl⟩
  obtain ⟨A, hA⟩ : ∃ A, A = trimL a := ⟨_, rfl⟩
  obtain ⟨B, hB⟩ : ∃ B, B = trimL b := ⟨_, rfl⟩
  have hpl : A.length = p := by rw [hA, trimL_len, hla, hp]
  have hql : B.length = q := by rw [hB, trimL_len, hlb, hq]
  have hE : ovE a b = if p ≤ 256 ∧ q ≤ 256 then (if q = 0 then 60 else 0) else 61 := by unfold ovE; rw [← hA, ← hB, hpl, hql]
  have hQ : ovQ a b = if ovE a b = 0 ∧ q ≤ p then trimL (ovS (ovK A B) A B (ovK A B)).1 else [] := by unfold ovQ; rw [← hA, ← hB, hpl, hql]
  have hR : ovR a b = if ovE a b = 0 then (if q ≤ p then trimL (ovS (ovK A B) A B (ovK A B)).2 else A) else [] := by unfold ovR; rw [← hA, ← hB, hpl, hql]
  rw [← hp] at hta
  rw [← hq] at htb
  have ct1 := trim_n aa ca n a w ha hla (by unfold maxLen; omega) hca
  have ct2 := trim_n ab cb m b w hb hlb (by unfold maxLen; omega) hcb
  rw [← hp] at ct1
  rw [← hq] at ct2
  have CT1 := Lib.hid ct1
  have CT2 := Lib.hid ct2
  have HTA : Hid (BLies w aa A) := Lib.hid (by rw [hA]; unfold trimL; exact ha.take _)
  have HTB : Hid (BLies w ab B) := Lib.hid (by rw [hB]; unfold trimL; exact hb.take _)
  have HPL := Lib.hid hpl
  have HQL := Lib.hid hql
  have hKK : ovK A B = p - q + 1 := by unfold ovK; rw [hpl, hql]
  have HE := Lib.hid hE
  have HQ := Lib.hid hQ
  have HRR := Lib.hid hR
  have HKK := Lib.hid hKK
  clear ha hb hla hlb hp hq hpl hql ct1 ct2 hA hB hE hQ hR hKK
  by_cases h1 : p ≤ 256 ∧ q ≤ 256
  · have hd1 : decide ((256 : Int) < (p : Int)) = false := by simp; omega
    have hd2 : decide ((256 : Int) < (q : Int)) = false := by simp; omega
    rcases Nat.eq_zero_or_pos q with rfl | hqp
    · have hE0 : ovE a b = 60 := by rw [HE.out, if_pos h1]; rfl
      have hQ0 : ovQ a b = [] := by rw [HQ.out, hE0]; rfl
      have hR0 : ovR a b = [] := by rw [HRR.out, hE0]; rfl
      rw [hE0, hQ0, hR0]
      go_enter Try.func44, Try.ntmps44
      go_wp2_with fail
      refine CT1.out.mono ?_
      rintro e w' ⟨rfl, rfl⟩
      go_wp2_with fail
      refine CT2.out.mono ?_
      rintro e w' ⟨rfl, rfl⟩
      go_wp2_with fail
      go_ret3
      exact ⟨none, 0, 0, none, 0, 0, rfl, Own.nil _ _ _ _ _, Own.nil _ _ _ _ _, fun g h => absurd h.1 (by simp), World.grownBy.refl _ _⟩
    · have hE0 : ovE a b = 0 := by rw [HE.out, if_pos h1, if_neg (by omega)]
      have hq0 : ((q : Int) == 0) = false := by simp; omega
      obtain ⟨is, his, hisz, hiss, hisb⟩ := info_parts (show (Try.prog.info? 33).map (fun i => (i.zero, i.size, i.bytes)) = some (some (.slice none 0 0), 1, 24) by kernel_rfl)
      obtain ⟨iu, hiu, hiuz, hius, hiub⟩ := info_parts (show (Try.prog.info? 5).map (fun i => (i.zero, i.size, i.bytes)) = some (some (.int .u8 0), 1, 1) by kernel_rfl)
      obtain ⟨ii, hii, hiiz, hiis, hiib⟩ := info_parts (show (Try.prog.info? 3).map (fun i => (i.zero, i.size, i.bytes)) = some (some (.int .i64 0), 1, 8) by kernel_rfl)
      by_cases hlt : p < q
      · have hdl : decide ((p : Int) < (q : Int)) = true := by simp; omega
        have hQ0 : ovQ a b = [] := by rw [HQ.out, if_neg (by omega)]
        have hR0 : ovR a b = A := by rw [HRR.out, if_pos hE0, if_neg (by omega)]
        rw [hE0, hQ0, hR0]
        rcases Nat.eq_zero_or_pos p with rfl | hpp
        · have hA0 : A = [] := List.eq_nil_of_length_eq_zero HPL.out
          rw [hA0]
          go_enter Try.func44, Try.ntmps44
          go_wp2_with fail
          refine CT1.out.mono ?_
          rintro e w' ⟨rfl, rfl⟩
          go_wp2_with fail
          refine CT2.out.mono ?_
          rintro e w' ⟨rfl, rfl⟩
          go_wp2_with (first | (at_builtin; refine Lib.wpList_append_run _ rfl _ _ _ _ rfl _ _ rfl rfl _ _ (run_app_none _ _ _ _) ?_) | (refine wpList_fresh1 rfl rfl rfl rfl rfl his hisz hiss rfl (.slice none 0 0) rfl rfl rfl ?_; intro W2 hs2 hg2 hr2; have HG2 := Lib.hid hg2; have cb := Row.cell hr2 0; simp only [List.getElem?_toArray, List.getElem?_cons_zero] at cb; clear hg2 hr2 hs2))
          go_quiet (fail)
          have HGD := Lib.hid (grownBy_trans HG2.out (grownBy_drewN W2 nq none))
          go_wp2_with fail
          go_ret3
          exact ⟨none, 0, 0, none, 0, 0, rfl, Own.nil _ _ _ _ _, Own.nil _ _ _ _ _, fun g h => absurd h.1 (by simp), HGD.out⟩
        · obtain ⟨ga, oa, haa⟩ : ∃ g o, aa = some ⟨g, o, none⟩ := by
            obtain ⟨g, o, e, _⟩ := HTA.out 0 (by rw [HPL.out]; omega)
            exact ⟨g, o, e⟩
          subst haa
          have happS : ∀ j u, (A.map bval)[j]? = some u → w.cell? ((⟨ga, oa, none⟩ : Addr).add j) = some u := by
            intro j u hu
            obtain ⟨hj, rfl⟩ := List.getElem?_eq_some_iff.1 hu
            obtain ⟨g, o, e, hc⟩ := HTA.out j (by simpa using hj)
            injection e with e; injection e with e1 e2
            subst e1; subst e2
            have hadd : (⟨ga, oa, none⟩ : Addr).add j = ⟨ga, oa + j, none⟩ := by unfold Addr.add; split <;> simp_all
            rw [hadd, hc]; simp [bval]
          have HAP := Lib.hid happS
          have hone : ∀ u ∈ A.map bval, u.oneCell' = true := fun u hu => by obtain ⟨_, _, rfl⟩ := List.mem_map.1 hu; rfl
          have HON := Lib.hid hone
          clear happS hone
          go_enter Try.func44, Try.ntmps44
          go_wp2_with fail
          refine CT1.out.mono ?_
          rintro e w' ⟨rfl, rfl⟩
          go_wp2_with fail
          refine CT2.out.mono ?_
          rintro e w' ⟨rfl, rfl⟩
          go_wp2_with (first | (at_builtin; refine wpList_app elB rfl (.const (.slice none 0 0)) (.tmp 30) rfl rfl (Own.nil w w.heap.size 5 1 none) ⟨ga, oa, none⟩ p ca (A.map bval) rfl (by rw [List.length_map, HPL.out, Nat.mul_one]) HAP.out HON.out (by unfold maxLen; omega) (by omega) (Nat.le_refl _) (by omega) ?_; intro gr cr w1 hown1 hgr1; have HO1 := Lib.hid hown1; have HG1 := Lib.hid (hgr1.grew.grown (Own.nil w w.heap.size 5 1 none) (World.grownBy.refl _ _) (Nat.le_refl _)); clear hown1 hgr1) | (refine wpList_fresh1 rfl rfl rfl rfl rfl his hisz hiss rfl (.slice (some ⟨gr, 0, none⟩) (0 + p) cr) rfl rfl rfl ?_; intro W2 hs2 hg2 hr2; have HG2 := Lib.hid (grownBy_trans HG1.out hg2); have cb := Row.cell hr2 0; simp only [List.getElem?_toArray, List.getElem?_cons_zero] at cb; have HO2 := Lib.hid (Own.ch HO1.out (Ch.ofNone hg2 (fun _ => False)) (fun _ _ _ h => h)); clear hg2 hr2 hs2))
          go_quiet (fail)
          have hgd : W2.grownBy (W2.drewN nq) none := grownBy_drewN W2 nq none
          have HGD := Lib.hid (grownBy_trans HG2.out hgd)
          have hod := Own.ch HO2.out (Ch.ofNone hgd (fun _ => False)) (fun _ _ _ h => h)
          rw [List.nil_append, Nat.zero_add] at hod
          have HOD := Lib.hid hod
          clear hgd hod
          go_wp2_with fail
          go_ret3
          exact ⟨none, 0, 0, _, _, _, rfl, Own.nil _ _ _ _ _, HOD.out, fun g h => absurd h.1 (by simp), HGD.out⟩
      · have hdl : decide ((p : Int) < (q : Int)) = false := by simp; omega
        obtain ⟨ga, oa, haa⟩ : ∃ g o, aa = some ⟨g, o, none⟩ := by
          obtain ⟨g, o, e, _⟩ := HTA.out 0 (by rw [HPL.out]; omega)
          exact ⟨g, o, e⟩
        subst haa
        have happS : ∀ j u, (A.map bval)[j]? = some u → w.cell? ((⟨ga, oa, none⟩ : Addr).add j) = some u := by
          intro j u hu
          obtain ⟨hj, rfl⟩ := List.getElem?_eq_some_iff.1 hu
          obtain ⟨g, o, e, hc⟩ := HTA.out j (by simpa using hj)
          injection e with e; injection e with e1 e2
          subst e1; subst e2
          have hadd : (⟨ga, oa, none⟩ : Addr).add j = ⟨ga, oa + j, none⟩ := by unfold Addr.add; split <;> simp_all
          rw [hadd, hc]; simp [bval]
        have HAP := Lib.hid happS
        have hone : ∀ u ∈ A.map bval, u.oneCell' = true := fun u hu => by obtain ⟨_, _, rfl⟩ := List.mem_map.1 hu; rfl
        have HON := Lib.hid hone
        obtain ⟨K, hK⟩ : ∃ K, K = p - q + 1 := ⟨_, rfl⟩
        have hw1 : IntKind.i64.wrap ((p : Int) - (q : Int)) = (p : Int) - (q : Int) := IntWalk.i64_in _ (by omega)
        have hw2 : IntKind.i64.wrap ((p : Int) - (q : Int) + 1) = (K : Int) := by rw [show (p : Int) - (q : Int) + 1 = (K : Int) by omega]; exact IntWalk.i64_in _ (by omega)
        have hKi : ((p - q : Nat) : Int) + 1 = (K : Int) := by omega
        have hKi2 : (p : Int) - (q : Int) + 1 = (K : Int) := by omega
        obtain ⟨gb, ob, hbb⟩ : ∃ g o, ab = some ⟨g, o, none⟩ := by
          obtain ⟨g, o, e, _⟩ := HTB.out 0 (by rw [HQL.out]; omega)
          exact ⟨g, o, e⟩
        subst hbb
        obtain ⟨z, hz⟩ : ∃ z, z = B.getD (q - 1) 0 := ⟨_, rfl⟩
        have hcb1 : ∀ W, w.grownBy W none → W.cell? ⟨gb, ob + (q - 1), none⟩ = some (.int .u8 (z.toNat : Int)) := by
          intro W hg
          obtain ⟨g, o, e, hc⟩ := HTB.out.grown hg (q - 1) (by rw [HQL.out]; omega)
          injection e with e; injection e with e1 e2
          subst e1; subst e2
          rw [hc, hz]; simp [show q - 1 < B.length by rw [HQL.out]; omega]
        have HCB := Lib.hid hcb1
        have HZ := Lib.hid hz
        have hi1 : (0 : Int) ≤ (q : Int) - 1 := by omega
        have hi2 : (q : Int) - 1 < (q : Int) := by omega
        have hi3 : ((q : Int) - 1).toNat = q - 1 := by omega
        have hi4 : IntKind.i64.wrap ((q : Int) - 1) = (q : Int) - 1 := IntWalk.i64_in _ (by omega)
        have hi5 : IntKind.i64.wrap ((K : Int) - 1) = (K : Int) - 1 := IntWalk.i64_in _ (by omega)
        clear hz hcb1
        have HK := Lib.hid hK
        have hKp : K ≤ p := by omega
        have HKP := Lib.hid hKp
        have hK1 : 0 < K := by omega
        clear happS hone hK hKp
        go_enter Try.func44, Try.ntmps44
        go_wp2_with fail
        refine CT1.out.mono ?_
        rintro e w' ⟨rfl, rfl⟩
        go_wp2_with fail
        refine CT2.out.mono ?_
        rintro e w' ⟨rfl, rfl⟩
        go_wp2_with (first | (at_builtin; refine wpList_app elB rfl (.const (.slice none 0 0)) (.tmp 30) rfl rfl (Own.nil w w.heap.size 5 1 none) ⟨ga, oa, none⟩ p ca (A.map bval) rfl (by rw [List.length_map, HPL.out, Nat.mul_one]) HAP.out HON.out (by unfold maxLen; omega) (by omega) (Nat.le_refl _) (by omega) ?_; intro gr cr w1 hown1 hgr1; have HO1 := Lib.hid hown1; have HG1 := Lib.hid (hgr1.grew.grown (Own.nil w w.heap.size 5 1 none) (World.grownBy.refl _ _) (Nat.le_refl _)); clear hown1 hgr1) | (refine wpList_fresh1 rfl rfl rfl rfl rfl his hisz hiss rfl (.slice (some ⟨gr, 0, none⟩) (0 + p) cr) rfl rfl rfl ?_; intro W2 hs2 hg2 hr2; have HR2 := Lib.hid hr2; have HG2 := Lib.hid (grownBy_trans HG1.out hg2); have HO2 := Lib.hid (Own.ch HO1.out (Ch.ofNone hg2 (fun _ => False)) (fun _ _ _ h => h)); have HS2 := Lib.hid hs2; clear hg2 hr2 hs2) | (refine wpList_mkB rfl _ _ 33 rfl 5 Try.underlying33 hiu hiuz hius hiub K rfl rfl (by omega) ?_; intro W3 hs3 hg3 hr3; have HQ3 := Lib.hid hr3; have HG3 := Lib.hid (grownBy_trans HG2.out hg3); have HR3 := Lib.hid (HR2.out.grown hg3); have HO3 := Lib.hid (Own.ch HO2.out (Ch.ofNone hg3 (fun _ => False)) (fun _ _ _ h => h)); have HS3 := Lib.hid hs3; have cbl := HCB.out W3 HG3.out; clear hg3 hr3 hs3) | (go_at_call 21; refine (inv_i _ z _ rfl).mono ?_; rintro e' w' ⟨rfl, rfl⟩) | (refine wpList_fresh1 rfl rfl rfl rfl rfl hii hiiz hiis rfl (.int .i64 ((K : Int) - 1)) rfl rfl rfl ?_; intro W4 hs4 hg4 hr4; have HI4 := Lib.hid hr4; have HG4 := Lib.hid (grownBy_trans HG3.out hg4); have HR4 := Lib.hid (HR3.out.grown hg4); have HQ4 := Lib.hid (HQ3.out.grown hg4); have HO4 := Lib.hid (Own.ch HO3.out (Ch.ofNone hg4 (fun _ => False)) (fun _ _ _ h => h)); clear hg4 hr4 cbl))
        simp only [Act.put, List.setIfInBounds_toArray, List.set_cons_zero, List.set_cons_succ]
        obtain ⟨b7, hb7⟩ : ∃ b7, b7 = w1.heap.size := ⟨_, rfl⟩
        obtain ⟨gq, hgq⟩ : ∃ gq, gq = W2.heap.size := ⟨_, rfl⟩
        obtain ⟨bi0, hbi0⟩ : ∃ bi0, bi0 = W3.heap.size := ⟨_, rfl⟩
        have hlt1 : gr < b7 := by rw [hb7]; exact (Own.inn HO1.out (g := gr) ⟨by have := HO1.out.cap; omega, rfl⟩).2
        have hlt2 : b7 < gq := by have := HS2.out; omega
        have hlt3 : gq < bi0 := by have := HS3.out; omega
        have hwb : w.heap.size ≤ gr := (Own.inn HO1.out (g := gr) ⟨by have := HO1.out.cap; omega, rfl⟩).1
        rw [← hb7, ← hgq, ← hbi0]
        rw [← hb7, Nat.zero_add] at HR4
        rw [← hgq] at HQ4
        rw [← hbi0] at HI4
        have hO4 := HO4.out
        rw [Nat.zero_add, List.nil_append] at hO4
        have HO5 : Hid (BOwn W4 w.heap.size (some ⟨gr, 0, none⟩) p cr A) := Lib.hid hO4
        clear hb7 hgq hbi0 HO4 HO3 HO2 HO1 HR2 HR3 HQ3 HS2 HS3 HG1 HG2 HG3 HAP HON hO4 hs4
        go_loopw [11] (fun v wr => ∃ j bi : Nat, j ≤ K ∧ v = .pointer (some ⟨bi, 0, none⟩) ∧ gq < bi ∧ Row wr bi 3 #[.int .i64 ((K : Int) - 1 - (j : Int))] ∧ Row wr b7 33 #[.slice (some ⟨gr, 0, none⟩) p cr] ∧ BOwn wr w.heap.size (some ⟨gr, 0, none⟩) p cr (ovS K A B j).2 ∧ BRow wr gq 5 (ovS K A B j).1 ∧ w.grownBy wr none) (fun v wr => iAt v wr)
        case atStart =>
          refine ⟨0, bi0, by omega, rfl, hlt3, ?_, HR4.out, HO5.out, HQ4.out, HG4.out⟩
          have := HI4.out
          simpa using this
        case round =>
          obtain ⟨j, bi, hj, rfl, hbi, hri, hr7, hro, hrq, hg⟩ := hrel
          have HRI := Lib.hid hri
          have HR7 := Lib.hid hr7
          have HRO := Lib.hid hro
          have HRQ := Lib.hid hrq
          have HG := Lib.hid hg
          clear hri hr7 hro hrq hg HI4 HR4 HO5 HQ4 HG4
          by_cases hjK : j < K
          · obtain ⟨i, hi⟩ : ∃ i, i = K - 1 - j := ⟨_, rfl⟩
            have hii' : (K : Int) - 1 - (j : Int) = (i : Int) := by omega
            rw [hii'] at HRI
            clear hii'
            have hci : wr.cell? ⟨bi, 0, none⟩ = some (.int .i64 (i : Int)) := by
              rw [Row.cell HRI.out 0]
              rfl
            obtain ⟨t, ht⟩ : ∃ t, t = i + q - 1 := ⟨_, rfl⟩
            have hiK : i < K := by omega
            have htp : t < p := by have := HK.out; omega
            have hst : ovS K A B (j + 1) = ((ovS K A B j).1.set i (gm ((ovS K A B j).2.getD t 0) (ginv z)), inF i (gm ((ovS K A B j).2.getD t 0) (ginv z)) B (ovS K A B j).2 q) := by
              rw [ovS, HQL.out, ← hi, ← ht, ← HZ.out]
            obtain ⟨rl, hrl⟩ : ∃ rl, rl = (ovS K A B j).2 := ⟨_, rfl⟩
            obtain ⟨ql, hql⟩ : ∃ ql, ql = (ovS K A B j).1 := ⟨_, rfl⟩
            have hqll : ql.length = K := by rw [hql, ovS_len1]
            have hrll : rl.length = p := by rw [hrl, ovS_len2]; exact HPL.out
            rw [← hrl, ← hql] at hst
            rw [← hrl] at HRO
            rw [← hql] at HRQ
            obtain ⟨v, hv⟩ : ∃ v, v = rl.getD t 0 := ⟨_, rfl⟩
            rw [← hv] at hst
            obtain ⟨f, hf⟩ : ∃ f, f = gm v (ginv z) := ⟨_, rfl⟩
            rw [← hf] at hst
            have HST := Lib.hid hst
            have HF := Lib.hid hf
            have HI := Lib.hid hi
            have HRLL := Lib.hid hrll
            have HQLL := Lib.hid hqll
            have cb7 := Row.cell HR7.out 0
            simp at cb7
            have htl : t < (rl.map bval).length := by rw [List.length_map, hrll]; exact htp
            obtain ⟨g', e1, _, _, hc, _⟩ := Own.cell HRO.out t htl
            injection e1 with e1; injection e1 with e1
            subst e1
            have hvv : (rl.map bval)[t] = .int .u8 (v.toNat : Int) := by rw [List.getElem_map, hv]; simp [bval, show t < rl.length by omega]
            rw [hvv] at hc
            have hge : decide ((0 : Int) ≤ (i : Int)) = true := by simp
            have e1 : IntKind.i64.wrap ((i : Int) + (q : Int)) = (i : Int) + (q : Int) := IntWalk.i64_in _ (by omega)
            have e2 : IntKind.i64.wrap ((i : Int) + (q : Int) - 1) = (t : Int) := by rw [show (i : Int) + (q : Int) - 1 = (t : Int) by omega]; exact IntWalk.i64_in _ (by omega)
            clear hi ht hst hf hrll hqll hrl hql htl hvv hv hi1 hi2 hi3 hi4 hi5
            go_wp2_with fail
            refine (mul_i _ _ v (ginv z) _ rfl rfl).mono ?_
            rintro e' w' ⟨rfl, rfl⟩
            rw [← HF.out]
            have hgl := HRQ.out.lt
            have hil : i < ql.length := by rw [HQLL.out]; exact hiK
            have hbl := HRI.out.lt
            clear hc cb7 e1 e2 hge
            go_wp2_with (refine wpList_fresh1 rfl rfl rfl rfl rfl hiu hiuz hius rfl (.int .u8 (f.toNat : Int)) rfl rfl rfl ?_; intro W5 hs5 hg5 hr5; have HS5 := Lib.hid hs5; have HBF := Lib.hid hr5; have HG5 := Lib.hid hg5; have ci5 := Row.cell (HRI.out.grown hg5) 0; have cf5 := Row.cell hr5 0; have cq5 := (HRQ.out.grown hg5).cell i hil; have fq5 := (HRQ.out.grown hg5).frozen i; simp only [List.getElem?_toArray, List.getElem?_cons_zero] at ci5 cf5; clear hs5 hg5 hr5)
            obtain ⟨bf, hbf⟩ : ∃ bf, bf = wr.heap.size := ⟨_, rfl⟩
            rw [← hbf] at HBF HS5 ⊢
            have hbibf : bi < bf := by rw [hbf]; exact hbl
            obtain ⟨W6, hW6⟩ : ∃ W6, W6 = W5.setCell ⟨gq, i, none⟩ (.int .u8 (f.toNat : Int)) := ⟨_, rfl⟩
            rw [← hW6]
            have hg6 : W5.grownBy W6 (some gq) := hW6 ▸ grownBy_setCell _ _ _ _
            have HQ6 := Lib.hid (show BRow W6 gq 5 (ql.set i f) from hW6 ▸ BRow.set (HRQ.out.grown HG5.out) i f)
            have HI6 := Lib.hid ((HRI.out.grown HG5.out).grownNe hg6 (show bi ≠ gq by omega))
            have HF6 := Lib.hid (HBF.out.grownNe hg6 (show bf ≠ gq by omega))
            have HR6 := Lib.hid ((HR7.out.grown HG5.out).grownNe hg6 (show b7 ≠ gq by omega))
            have ho6 : Own W6 w.heap.size 5 1 (some ⟨gr, 0, none⟩) p cr (rl.map bval) := Own.ch (Own.ch HRO.out (Ch.ofNone HG5.out (fun _ => False)) (fun _ _ _ h => h)) (Ch.ofSome (S := fun k => k = gq) hg6 rfl) (fun _ g e h => by injection e with e; injection e with e; omega)
            have HO6 : Hid (BOwn W6 w.heap.size (some ⟨gr, 0, none⟩) p cr rl) := Lib.hid ho6
            have hgw6 : w.grownBy W6 none := grownBy_old (grownBy_trans HG.out HG5.out) hg6 (by omega)
            have HG6 := Lib.hid hgw6
            have hent := enters_of Try.func57 (by kernel_rfl) rfl
            have hgbw : gb < w.heap.size := by
              obtain ⟨g, o, e, hc⟩ := HTB.out 0 (by rw [HQL.out]; exact hqp)
              injection e with e; injection e with e1 e2
              subst e1
              exact World.block_lt_of_cell? w _ hc
            have hJ : ∀ k W, (BOwn W w.heap.size (some ⟨gr, 0, none⟩) p cr (inF i f B rl k) ∧ W6.grownBy W (some gr)) → BLies W (some ⟨gb, ob, none⟩) B := fun k W h => (HTB.out.grown HG6.out).grownNe h.2 (fun b off e => by injection e with e; injection e with e1 e2; omega)
            have h0 : BOwn W6 w.heap.size (some ⟨gr, 0, none⟩) p cr (inF i f B rl 0) ∧ W6.grownBy W6 (some gr) := ⟨HO6.out, World.grownBy.refl _ _⟩
            have hstp : ∀ (k : Nat) (W : World) (hk : k < B.length), (BOwn W w.heap.size (some ⟨gr, 0, none⟩) p cr (inF i f B rl k) ∧ W6.grownBy W (some gr)) → Calls Try.prog 57 (#[.int .i64 (k : Int), .int .u8 ((B[k]).toNat : Int)] ++ #[.pointer (some ⟨b7, 0, none⟩), .pointer (some ⟨bi, 0, none⟩), .pointer (some ⟨bf, 0, none⟩)]) W fun e W' => e = .returned (.tuple #[]) ∧ BOwn W' w.heap.size (some ⟨gr, 0, none⟩) p cr (inF i f B rl (k + 1)) ∧ W6.grownBy W' (some gr) := by
              intro k W hk h
              have hd : B[k] = B.getD k 0 := by simp [hk]
              rw [hd]
              have hkq : k < q := by have := HQL.out; omega
              have h3 := over1_n b7 bi bf w.heap.size gr p cr i k f (B.getD k 0) (inF i f B rl k) W (HR6.out.grownNe h.2 (by omega)) (HI6.out.grownNe h.2 (by omega)) (HF6.out.grownNe h.2 (by omega)) h.1 (by have := HK.out; omega) (by omega)
              exact h3.mono fun e W' h' => ⟨h'.1, h'.2.1, grownBy_trans h.2 h'.2.2⟩
            have ht := term_n 57 #[.pointer (some ⟨b7, 0, none⟩), .pointer (some ⟨bi, 0, none⟩), .pointer (some ⟨bf, 0, none⟩)] (some ⟨gb, ob, none⟩) cb q B W6 (fun k W => BOwn W w.heap.size (some ⟨gr, 0, none⟩) p cr (inF i f B rl k) ∧ W6.grownBy W (some gr)) HQL.out (by unfold maxLen; omega) hent hJ hstp h0
            refine ht.mono ?_
            rintro e W7 ⟨rfl, h1, h2⟩
            have HO7 := Lib.hid h1
            have HQ7 := Lib.hid (HQ6.out.grownNe h2 (show gq ≠ gr by omega))
            have HR7' := Lib.hid (HR6.out.grownNe h2 (show b7 ≠ gr by omega))
            have hi7 := HI6.out.grownNe h2 (show bi ≠ gr by omega)
            have ci7 := Row.cell hi7 0
            simp only [List.getElem?_toArray, List.getElem?_cons_zero] at ci7
            have HG7 := Lib.hid (grownBy_old HG6.out h2 hwb)
            have hq7 := HQ7.out.lt
            have e3 : IntKind.i64.wrap ((i : Int) - 1) = (i : Int) - 1 := IntWalk.i64_in _ (by omega)
            clear h1 h2 hi7 ht hstp h0 hJ hent hgbw hgw6 ho6 hg6 hW6 ci5 cf5 cq5 fq5 hci hbf HQ6 HI6 HF6 HR6 HO6 HG6
            go_wp2_with (first | (refine wpList_fresh1 rfl rfl rfl rfl rfl hii hiiz hiis rfl (.int .i64 (i : Int)) rfl rfl rfl ?_; intro W8 hs8 hg8 hr8; have HI8 := Lib.hid hr8; have HG8 := Lib.hid hg8; have ci8 := Row.cell hr8 0; simp only [List.getElem?_toArray, List.getElem?_cons_zero] at ci8; clear hs8 hg8 hr8) | (refine wpList_put1 rfl rfl W7.heap.size rfl (.int .i64 ((i : Int) - 1)) rfl HI8.out (by kernel_rfl) rfl ?_; intro W9 hs9 hg9 hr9; have HG9 := Lib.hid hg9; have HI9 := Lib.hid hr9; clear hs9 hg9 hr9))
            simp only [Act.put]
            go_roundw
            case rel =>
              have hi9 := HI9.out
              have hii9 : (i : Int) - 1 = (K : Int) - 1 - ((j + 1 : Nat) : Int) := by have := HI.out; omega
              rw [hii9] at hi9
              have hc9 : Ch (fun k => k = W7.heap.size) W7 W9 := (Ch.ofNone HG8.out _).trans (Ch.ofSome (S := fun k => k = W7.heap.size) HG9.out rfl) (fun _ _ h => h)
              have hlt7 := HR7'.out.lt
              refine ⟨j + 1, W7.heap.size, by omega, rfl, by omega, hi9, HR7'.out.ch hc9 (by omega), ?_, ?_, Ch.fresh HG7.out hc9 (fun g hg h => by have := HG7.out.size; omega)⟩
              · rw [HST.out]
                exact Own.ch HO7.out hc9 (fun h0 g e h => by injection e with e; injection e with e; omega)
              · rw [HST.out]
                exact Row.ch HQ7.out hc9 (by omega)
            case measure =>
              rw [iAt_eq HI9.out, iAt_eq HRI.out]
              omega
          · obtain rfl : j = K := by omega
            obtain ⟨rl, hrl⟩ : ∃ rl, rl = (ovS j A B j).2 := ⟨_, rfl⟩
            obtain ⟨ql, hql⟩ : ∃ ql, ql = (ovS j A B j).1 := ⟨_, rfl⟩
            have hqll : ql.length = j := by rw [hql, ovS_len1]
            have hrll : rl.length = p := by rw [hrl, ovS_len2]; exact HPL.out
            have hQ0 : ovQ a b = ql.take (trimN ql j) := by
              rw [HQ.out, if_pos ⟨hE0, by omega⟩, HKK.out, ← HK.out, ← hql]; unfold trimL; rw [hqll]
            have hR0 : ovR a b = rl.take (trimN rl p) := by
              rw [HRR.out, if_pos hE0, if_pos (by omega), HKK.out, ← HK.out, ← hrl]; unfold trimL; rw [hrll]
            rw [← hrl] at HRO
            rw [← hql] at HRQ
            have HQ0 := Lib.hid hQ0
            have HR0 := Lib.hid hR0
            have HRLL := Lib.hid hrll
            have HQLL := Lib.hid hqll
            have HE0 := Lib.hid hE0
            have cb7 := Row.cell HR7.out 0
            simp only [List.getElem?_toArray, List.getElem?_cons_zero] at cb7
            have ci := Row.cell HRI.out 0
            simp only [List.getElem?_toArray, List.getElem?_cons_zero] at ci
            have hm1 : (j : Int) - 1 - (j : Int) = -1 := by omega
            rw [hm1] at ci
            have htq := trimN_le ql j
            have htr := trimN_le rl p
            clear hQ0 hR0 hrll hqll hrl hql hm1 hE0
            go_wp2_with fail
            go_quiet ((first | (go_at_call_of 54 (Value.slice (some ⟨gq, 0, none⟩) j j); exact quietS (trim_n _ _ _ ql _ ((BRow.lies HRQ.out).drewN _) HQLL.out (by unfold maxLen; omega) (Nat.le_refl _))) | (go_at_call_of 54 (Value.slice (some ⟨gr, 0, none⟩) p cr); exact quietS (trim_n _ _ _ rl _ ((BOwn.lies HRO.out).drewN _) HRLL.out (by unfold maxLen; omega) HRO.out.cap.1))))
            have hgd : wr.grownBy (wr.drewN nq) none := grownBy_drewN _ _ _
            have HGD := Lib.hid (grownBy_trans HG.out hgd)
            have HOD := Lib.hid (Own.ch HRO.out (Ch.ofNone hgd (fun _ => False)) (fun _ _ _ h => h))
            have HQD := Lib.hid (HRQ.out.grown hgd)
            clear hgd
            go_wp2_with fail
            go_ret3
            rw [HE0.out, HQ0.out, HR0.out]
            refine ⟨_, _, _, _, _, _, rfl, ?_, ?_, ?_, HGD.out⟩
            · exact BRow.ownTake HQD.out (by omega) _ _ HQLL.out htq (by unfold maxLen; omega)
            · exact Own.takeN HOD.out _ htr
            · intro g h h'
              obtain ⟨_, h1⟩ := h
              obtain ⟨_, h2⟩ := h'
              injection h1 with h1; injection h1 with h1
              injection h2 with h2; injection h2 with h2
              omega
  · have hE0 : ovE a b = 61 := by rw [HE.out, if_neg h1]
    have hQ0 : ovQ a b = [] := by rw [HQ.out, hE0]; rfl
    have hR0 : ovR a b = [] := by rw [HRR.out, hE0]; rfl
    rw [hE0, hQ0, hR0]
    by_cases h2 : p ≤ 256
    · have hd1 : decide ((256 : Int) < (p : Int)) = false := by simp; omega
      have hd2 : decide ((256 : Int) < (q : Int)) = true := by simp; omega
      go_enter Try.func44, Try.ntmps44
      go_wp2_with fail
      refine CT1.out.mono ?_
      rintro e w' ⟨rfl, rfl⟩
      go_wp2_with fail
      refine CT2.out.mono ?_
      rintro e w' ⟨rfl, rfl⟩
      go_wp2_with fail
      go_ret3
      exact ⟨none, 0, 0, none, 0, 0, rfl, Own.nil _ _ _ _ _, Own.nil _ _ _ _ _, fun g h => absurd h.1 (by simp), World.grownBy.refl _ _⟩
    · have hd1 : decide ((256 : Int) < (p : Int)) = true := by simp; omega
      go_enter Try.func44, Try.ntmps44
      go_wp2_with fail
      refine CT1.out.mono ?_
      rintro e w' ⟨rfl, rfl⟩
      go_wp2_with fail
      refine CT2.out.mono ?_
      rintro e w' ⟨rfl, rfl⟩
      go_wp2_with fail
      go_ret3
      exact ⟨none, 0, 0, none, 0, 0, rfl, Own.nil _ _ _ _ _, Own.nil _ _ _ _ _, fun g h => absurd h.1 (by simp), World.grownBy.refl _ _⟩

end Go.Proofs.Ytfikeilpgnahkaa
