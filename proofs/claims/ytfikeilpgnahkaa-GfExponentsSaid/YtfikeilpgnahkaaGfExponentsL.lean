/- The law GfExponents. -/
import Derived.Test.YtfikeilpgnahkaaGfLawsL
namespace Go.Proofs.Ytfikeilpgnahkaa
open Go.RowKit

theorem gexp_cong {i j : Nat} (h : i % 255 = j % 255) : gexp i = gexp j := by rw [← gexp_mod i, ← gexp_mod j, h]
theorem expI_nat (k : Nat) : expI (k : Int) = k % 255 := by unfold expI; omega
theorem expI_add1 (n : Int) : expI (n + 1) % 255 = (expI n + 1) % 255 := by unfold expI; omega
theorem expI_neg (n : Int) : (expI n + expI (-n)) % 255 = 0 := by unfold expI; omega
theorem expI_255 (n : Int) : expI (n + 255) = expI n := by unfold expI; omega
theorem gexp_one : gexp 1 = 2 := by decide +kernel
theorem powV_of {a : UInt8} (h : a ≠ 0) (n : Int) : powV a n = gexp (glog a * expI n) := by
  have hl := (glog_spec h).2
  unfold powV
  rw [if_neg h]
  by_cases h0 : n = 0
  · rw [if_pos h0, h0]; rfl
  · rw [if_neg h0]
    conv => lhs; rw [← hl]
    rw [gpow_gexp]
theorem powV_succ {a : UInt8} (h : a ≠ 0) (n : Int) : gm (powV a n) a = powV a (n + 1) := by
  rw [powV_of h, powV_of h]
  conv => lhs; rw [← (glog_spec h).2]
  rw [glog_gexp (glog_spec h).1, ← gexp_add]
  apply gexp_cong
  have h1 := expI_add1 n
  rw [show glog a * expI n + glog a = glog a * (expI n + 1) by rw [Nat.mul_succ], Nat.mul_mod, ← h1, ← Nat.mul_mod]

set_option maxRecDepth 100000 in
set_option maxHeartbeats 4000000 in
theorem exponents_walk (a b : UInt8) (n : Int) (w : World) (hn : -9223372036854775808 ≤ n ∧ n ≤ 9223372036854775807) :
    Calls Try.prog 10 #[.int .u8 (a.toNat : Int), .int .u8 (b.toNat : Int), .int .i64 n] w fun e w' => e = .returned (.bool true) ∧ w.grownBy w' none := by
  obtain ⟨t, ht⟩ : ∃ t, t = n.tdiv 2 := ⟨_, rfl⟩
  have ht2 : -4611686018427387904 ≤ t ∧ t ≤ 4611686018427387904 := by
    rw [ht]
    rcases Int.le_total 0 n with h | h
    · rw [Int.tdiv_eq_ediv_of_nonneg h]; omega
    · have := Int.neg_tdiv n 2
      rw [show n.tdiv 2 = -((-n).tdiv 2) by rw [this]; omega, Int.tdiv_eq_ediv_of_nonneg (by omega)]; omega
  have ea := u8_zero a
  have eb := u8_zero b
  have na : ((a.toNat : Int) != 0) = !decide (a = 0) := by rw [bne, ea]
  have nb : ((b.toNat : Int) != 0) = !decide (b = 0) := by rw [bne, eb]
  obtain ⟨la, hla⟩ : ∃ l, l = glog a := ⟨_, rfl⟩
  obtain ⟨lb, hlb⟩ : ∃ l, l = glog b := ⟨_, rfl⟩
  have hla2 : la < 255 := by rw [hla]; by_cases h : a = 0; · rw [h, glog_zero]; decide
                             · exact (glog_spec h).1
  have hlb2 : lb < 255 := by rw [hlb]; by_cases h : b = 0; · rw [h, glog_zero]; decide
                             · exact (glog_spec h).1
  have EA := Lib.hid (fun h : a ≠ 0 => show gexp (expI (la : Int)) = a by rw [hla, expI_nat, gexp_mod, (glog_spec h).2])
  obtain ⟨p1, h1⟩ : ∃ p, p = gm a b := ⟨_, rfl⟩
  have P1 := Lib.hid (show ((gm a b).toNat : Int) = (p1.toNat : Int) by rw [h1])
  have P1' := Lib.hid (fun (h : a ≠ 0) (h' : b ≠ 0) => show gexp (expI ((la : Int) + (lb : Int))) = p1 by rw [h1, ← Int.natCast_add, expI_nat, gexp_mod, gexp_add, hla, hlb, (glog_spec h).2, (glog_spec h').2])
  obtain ⟨g, hg⟩ : ∃ g, g = gexp (expI t) := ⟨_, rfl⟩
  obtain ⟨g1, hg1⟩ : ∃ g, g = gexp (expI (t + 1)) := ⟨_, rfl⟩
  obtain ⟨g2, hg2⟩ : ∃ g, g = gexp (expI (-t)) := ⟨_, rfl⟩
  have X1 := Lib.hid (show gexp (expI (t + 255)) = g by rw [hg, expI_255])
  have G1 := Lib.hid (show ((gm g 2).toNat : Int) = (g1.toNat : Int) by rw [hg, hg1, ← gexp_one, ← gexp_add, gexp_cong (expI_add1 t)])
  have G2 := Lib.hid (show ((gm g g2).toNat : Int) = 1 by rw [hg, hg2, ← gexp_add, gexp_cong (show _ = 0 % 255 from expI_neg t)]; rfl)
  obtain ⟨q, hq⟩ : ∃ q, q = powV a t := ⟨_, rfl⟩
  obtain ⟨q1, hq1⟩ : ∃ q, q = powV a (t + 1) := ⟨_, rfl⟩
  have Q1 := Lib.hid (fun h : a ≠ 0 => show ((gm q a).toNat : Int) = (q1.toNat : Int) by rw [hq, hq1, powV_succ h])
  have cl : ∀ W : World, Calls Try.prog 37 #[.int .u8 (a.toNat : Int)] W fun e w' => e = .returned (.tuple #[.int .i64 (la : Int), .int .i64 (noughtE a : Nat)]) ∧ W.grownBy w' none := fun W => by rw [hla]; exact log_i _ a W rfl
  have cm : ∀ W : World, Calls Try.prog 37 #[.int .u8 (b.toNat : Int)] W fun e w' => e = .returned (.tuple #[.int .i64 (lb : Int), .int .i64 (noughtE b : Nat)]) ∧ W.grownBy w' none := fun W => by rw [hlb]; exact log_i _ b W rfl
  have ce : ∀ W : World, Calls Try.prog 41 #[.int .i64 t] W fun e w' => e = .returned (.int .u8 (g.toNat : Int)) ∧ W.grownBy w' none := fun W => by rw [hg]; exact exp_any t W (by omega)
  have ce0 : ∀ W : World, Calls Try.prog 41 #[.int .i64 (t + 255)] W fun e w' => e = .returned (.int .u8 (g.toNat : Int)) ∧ W.grownBy w' none := fun W => by have h := exp_any (t + 255) W (by omega); rw [X1.out] at h; exact h
  have ce1 : ∀ W : World, Calls Try.prog 41 #[.int .i64 (t + 1)] W fun e w' => e = .returned (.int .u8 (g1.toNat : Int)) ∧ W.grownBy w' none := fun W => by rw [hg1]; exact exp_any _ W (by omega)
  have ce2 : ∀ W : World, Calls Try.prog 41 #[.int .i64 (-t)] W fun e w' => e = .returned (.int .u8 (g2.toNat : Int)) ∧ W.grownBy w' none := fun W => by rw [hg2]; exact exp_any _ W (by omega)
  have cp : ∀ W : World, Calls Try.prog 38 #[.int .u8 (a.toNat : Int), .int .i64 t] W fun e w' => e = .returned (.tuple #[.int .u8 (q.toNat : Int), .int .i64 (powE a t : Nat)]) ∧ W.grownBy w' none := fun W => by rw [hq]; exact pow_i _ a t W rfl (by omega)
  have cp1 : ∀ W : World, Calls Try.prog 38 #[.int .u8 (a.toNat : Int), .int .i64 (t + 1)] W fun e w' => e = .returned (.tuple #[.int .u8 (q1.toNat : Int), .int .i64 (powE a (t + 1) : Nat)]) ∧ W.grownBy w' none := fun W => by rw [hq1]; exact pow_i _ a _ W rfl (by omega)
  have CL := Lib.hid cl
  have CM := Lib.hid cm
  have CE := Lib.hid ce
  have CE0 := Lib.hid ce0
  have CE1 := Lib.hid ce1
  have CE2 := Lib.hid ce2
  have CP := Lib.hid cp
  have CP1 := Lib.hid cp1
  have w0 : IntKind.i64.wrap t = t := IntWalk.i64_in _ (by omega)
  have w1 : IntKind.i64.wrap (t + 255) = t + 255 := IntWalk.i64_in _ (by omega)
  have w2 : IntKind.i64.wrap (t + 1) = t + 1 := IntWalk.i64_in _ (by omega)
  have w3 : IntKind.i64.wrap (-t) = -t := IntWalk.i64_in _ (by omega)
  have w4 : IntKind.i64.wrap ((la : Int) + (lb : Int)) = (la : Int) + (lb : Int) := IntWalk.i64_in _ (by omega)
  have hce : ∀ W : World, a ≠ 0 → Calls Try.prog 41 #[.int .i64 (la : Int)] W fun e w' => e = .returned (.int .u8 (a.toNat : Int)) ∧ W.grownBy w' none := fun W h => by have h2 := exp_any (la : Int) W (by omega); rw [EA.out h] at h2; exact h2
  have hcs : ∀ W : World, a ≠ 0 → b ≠ 0 → Calls Try.prog 41 #[.int .i64 ((la : Int) + (lb : Int))] W fun e w' => e = .returned (.int .u8 (p1.toNat : Int)) ∧ W.grownBy w' none := fun W h h' => by have h2 := exp_any ((la : Int) + (lb : Int)) W (by omega); rw [P1'.out h h'] at h2; exact h2
  have HCE := Lib.hid hce
  have HCS := Lib.hid hcs
  clear cl cm ce ce0 ce1 ce2 cp cp1 hce hcs h1 hg hg1 hg2 hq hq1 hla hlb EA P1' X1
  have d1 : decide ((la : Int) < 0) = false := by simp
  have d2 : decide ((254 : Int) < (la : Int)) = false := by simp; omega
  have ht' : n.tdiv 2 = t := ht.symm
  clear ht
  have hcase : ∀ za zb : Bool, decide (a = 0) = za → decide (b = 0) = zb → Calls Try.prog 10 #[.int .u8 (a.toNat : Int), .int .u8 (b.toNat : Int), .int .i64 n] w fun e w' => e = .returned (.bool true) ∧ w.grownBy w' none := by
    intro za zb hza hzb
    rw [hza] at ea na
    rw [hzb] at eb nb
    have HZA := Lib.hid hza
    have HZB := Lib.hid hzb
    have hnE : noughtE a = if za = true then 60 else 0 := by
      unfold noughtE
      have := HZA.out
      cases za <;> simp_all
    have hnF : noughtE b = if zb = true then 60 else 0 := by
      unfold noughtE
      have := HZB.out
      cases zb <;> simp_all
    have hpE : ∀ m, a ≠ 0 → powE a m = 0 := fun m h => by unfold powE; rw [if_neg (fun h' => h h'.2)]
    have HPE := Lib.hid hpE
    clear hza hzb hpE
    cases za <;> cases zb <;> simp only [Bool.false_eq_true, if_true, if_false, Bool.not_true, Bool.not_false] at hnE hnF na nb
    · have HNE := Lib.hid hnE
      have HNF := Lib.hid hnF
      clear hnE hnF
      have H0 := Lib.hid (World.grownBy.refl w none)
      have hza : a ≠ 0 := by simpa using HZA.out
      have HN := Lib.hid hza
      clear hza
      have hzb : b ≠ 0 := by simpa using HZB.out
      have HM := Lib.hid hzb
      clear hzb
      go_enter Try.func10, Try.ntmps10
      go_wp2_with fail
      refine (CL.out _).mono ?_
      rintro e W1 ⟨rfl, g⟩
      rw [HNE.out]
      have H1 := Lib.hid (grownBy_trans H0.out g)
      clear g H0
      go_wp2_with fail
      refine (CM.out _).mono ?_
      rintro e W2 ⟨rfl, g⟩
      rw [HNF.out]
      have H2 := Lib.hid (grownBy_trans H1.out g)
      clear g H1
      go_wp2_with fail
      refine (awake_n _).mono ?_
      rintro e W3 ⟨rfl, g⟩
      have H3 := Lib.hid (grownBy_trans H2.out g)
      clear g H2
      go_wp2_with fail
      refine (HCE.out _ HN.out).mono ?_
      rintro e W4 ⟨rfl, g⟩
      have H4 := Lib.hid (grownBy_trans H3.out g)
      clear g H3
      go_wp2_with fail
      refine (mulI _ rfl rfl P1.out).mono ?_
      rintro e w' ⟨rfl, rfl⟩
      go_wp2_with fail
      refine (HCS.out _ HN.out HM.out).mono ?_
      rintro e W5 ⟨rfl, g⟩
      have H5 := Lib.hid (grownBy_trans H4.out g)
      clear g H4
      go_wp2_with fail
      refine (CE0.out _).mono ?_
      rintro e W6 ⟨rfl, g⟩
      have H6 := Lib.hid (grownBy_trans H5.out g)
      clear g H5
      go_wp2_with fail
      refine (CE.out _).mono ?_
      rintro e W7 ⟨rfl, g⟩
      have H7 := Lib.hid (grownBy_trans H6.out g)
      clear g H6
      go_wp2_with fail
      refine (CE.out _).mono ?_
      rintro e W8 ⟨rfl, g⟩
      have H8 := Lib.hid (grownBy_trans H7.out g)
      clear g H7
      go_wp2_with fail
      refine (mulI _ rfl (show ((2 : UInt8).toNat : Int) = 2 from rfl) G1.out).mono ?_
      rintro e w' ⟨rfl, rfl⟩
      go_wp2_with fail
      refine (CE1.out _).mono ?_
      rintro e W9 ⟨rfl, g⟩
      have H9 := Lib.hid (grownBy_trans H8.out g)
      clear g H8
      go_wp2_with fail
      refine (CE.out _).mono ?_
      rintro e W10 ⟨rfl, g⟩
      have H10 := Lib.hid (grownBy_trans H9.out g)
      clear g H9
      go_wp2_with fail
      refine (CE2.out _).mono ?_
      rintro e W11 ⟨rfl, g⟩
      have H11 := Lib.hid (grownBy_trans H10.out g)
      clear g H10
      go_wp2_with fail
      refine (mulI _ rfl rfl G2.out).mono ?_
      rintro e w' ⟨rfl, rfl⟩
      go_wp2_with fail
      refine (CP.out _).mono ?_
      rintro e W12 ⟨rfl, g⟩
      rw [HPE.out _ HN.out]
      have H12 := Lib.hid (grownBy_trans H11.out g)
      clear g H11
      go_wp2_with fail
      refine (CP1.out _).mono ?_
      rintro e W13 ⟨rfl, g⟩
      rw [HPE.out _ HN.out]
      have H13 := Lib.hid (grownBy_trans H12.out g)
      clear g H12
      go_wp2_with fail
      refine (mulI _ rfl rfl (Q1.out HN.out)).mono ?_
      rintro e w' ⟨rfl, rfl⟩
      go_wp2_with fail
      go_ret
      exact ⟨rfl, H13.out⟩
    · have HNE := Lib.hid hnE
      have HNF := Lib.hid hnF
      clear hnE hnF
      have H0 := Lib.hid (World.grownBy.refl w none)
      have hza : a ≠ 0 := by simpa using HZA.out
      have HN := Lib.hid hza
      clear hza
      go_enter Try.func10, Try.ntmps10
      go_wp2_with fail
      refine (CL.out _).mono ?_
      rintro e W1 ⟨rfl, g⟩
      rw [HNE.out]
      have H1 := Lib.hid (grownBy_trans H0.out g)
      clear g H0
      go_wp2_with fail
      refine (CM.out _).mono ?_
      rintro e W2 ⟨rfl, g⟩
      rw [HNF.out]
      have H2 := Lib.hid (grownBy_trans H1.out g)
      clear g H1
      go_wp2_with fail
      refine (awake_n _).mono ?_
      rintro e W3 ⟨rfl, g⟩
      have H3 := Lib.hid (grownBy_trans H2.out g)
      clear g H2
      go_wp2_with fail
      refine (HCE.out _ HN.out).mono ?_
      rintro e W4 ⟨rfl, g⟩
      have H4 := Lib.hid (grownBy_trans H3.out g)
      clear g H3
      go_wp2_with fail
      refine (CE0.out _).mono ?_
      rintro e W5 ⟨rfl, g⟩
      have H5 := Lib.hid (grownBy_trans H4.out g)
      clear g H4
      go_wp2_with fail
      refine (CE.out _).mono ?_
      rintro e W6 ⟨rfl, g⟩
      have H6 := Lib.hid (grownBy_trans H5.out g)
      clear g H5
      go_wp2_with fail
      refine (CE.out _).mono ?_
      rintro e W7 ⟨rfl, g⟩
      have H7 := Lib.hid (grownBy_trans H6.out g)
      clear g H6
      go_wp2_with fail
      refine (mulI _ rfl (show ((2 : UInt8).toNat : Int) = 2 from rfl) G1.out).mono ?_
      rintro e w' ⟨rfl, rfl⟩
      go_wp2_with fail
      refine (CE1.out _).mono ?_
      rintro e W8 ⟨rfl, g⟩
      have H8 := Lib.hid (grownBy_trans H7.out g)
      clear g H7
      go_wp2_with fail
      refine (CE.out _).mono ?_
      rintro e W9 ⟨rfl, g⟩
      have H9 := Lib.hid (grownBy_trans H8.out g)
      clear g H8
      go_wp2_with fail
      refine (CE2.out _).mono ?_
      rintro e W10 ⟨rfl, g⟩
      have H10 := Lib.hid (grownBy_trans H9.out g)
      clear g H9
      go_wp2_with fail
      refine (mulI _ rfl rfl G2.out).mono ?_
      rintro e w' ⟨rfl, rfl⟩
      go_wp2_with fail
      refine (CP.out _).mono ?_
      rintro e W11 ⟨rfl, g⟩
      rw [HPE.out _ HN.out]
      have H11 := Lib.hid (grownBy_trans H10.out g)
      clear g H10
      go_wp2_with fail
      refine (CP1.out _).mono ?_
      rintro e W12 ⟨rfl, g⟩
      rw [HPE.out _ HN.out]
      have H12 := Lib.hid (grownBy_trans H11.out g)
      clear g H11
      go_wp2_with fail
      refine (mulI _ rfl rfl (Q1.out HN.out)).mono ?_
      rintro e w' ⟨rfl, rfl⟩
      go_wp2_with fail
      go_ret
      exact ⟨rfl, H12.out⟩
    · have HNE := Lib.hid hnE
      have HNF := Lib.hid hnF
      clear hnE hnF
      have H0 := Lib.hid (World.grownBy.refl w none)
      have hzb : b ≠ 0 := by simpa using HZB.out
      have HM := Lib.hid hzb
      clear hzb
      go_enter Try.func10, Try.ntmps10
      go_wp2_with fail
      refine (CL.out _).mono ?_
      rintro e W1 ⟨rfl, g⟩
      rw [HNE.out]
      have H1 := Lib.hid (grownBy_trans H0.out g)
      clear g H0
      go_wp2_with fail
      refine (CM.out _).mono ?_
      rintro e W2 ⟨rfl, g⟩
      rw [HNF.out]
      have H2 := Lib.hid (grownBy_trans H1.out g)
      clear g H1
      go_wp2_with fail
      refine (awake_n _).mono ?_
      rintro e W3 ⟨rfl, g⟩
      have H3 := Lib.hid (grownBy_trans H2.out g)
      clear g H2
      go_wp2_with fail
      refine (CE0.out _).mono ?_
      rintro e W4 ⟨rfl, g⟩
      have H4 := Lib.hid (grownBy_trans H3.out g)
      clear g H3
      go_wp2_with fail
      refine (CE.out _).mono ?_
      rintro e W5 ⟨rfl, g⟩
      have H5 := Lib.hid (grownBy_trans H4.out g)
      clear g H4
      go_wp2_with fail
      refine (CE.out _).mono ?_
      rintro e W6 ⟨rfl, g⟩
      have H6 := Lib.hid (grownBy_trans H5.out g)
      clear g H5
      go_wp2_with fail
      refine (mulI _ rfl (show ((2 : UInt8).toNat : Int) = 2 from rfl) G1.out).mono ?_
      rintro e w' ⟨rfl, rfl⟩
      go_wp2_with fail
      refine (CE1.out _).mono ?_
      rintro e W7 ⟨rfl, g⟩
      have H7 := Lib.hid (grownBy_trans H6.out g)
      clear g H6
      go_wp2_with fail
      refine (CE.out _).mono ?_
      rintro e W8 ⟨rfl, g⟩
      have H8 := Lib.hid (grownBy_trans H7.out g)
      clear g H7
      go_wp2_with fail
      refine (CE2.out _).mono ?_
      rintro e W9 ⟨rfl, g⟩
      have H9 := Lib.hid (grownBy_trans H8.out g)
      clear g H8
      go_wp2_with fail
      refine (mulI _ rfl rfl G2.out).mono ?_
      rintro e w' ⟨rfl, rfl⟩
      go_wp2_with fail
      refine (CP.out _).mono ?_
      rintro e W10 ⟨rfl, g⟩
      have H10 := Lib.hid (grownBy_trans H9.out g)
      clear g H9
      go_wp2_with fail
      refine (CP1.out _).mono ?_
      rintro e W11 ⟨rfl, g⟩
      have H11 := Lib.hid (grownBy_trans H10.out g)
      clear g H10
      go_wp2_with fail
      go_ret
      exact ⟨rfl, H11.out⟩
    · have HNE := Lib.hid hnE
      have HNF := Lib.hid hnF
      clear hnE hnF
      have H0 := Lib.hid (World.grownBy.refl w none)
      go_enter Try.func10, Try.ntmps10
      go_wp2_with fail
      refine (CL.out _).mono ?_
      rintro e W1 ⟨rfl, g⟩
      rw [HNE.out]
      have H1 := Lib.hid (grownBy_trans H0.out g)
      clear g H0
      go_wp2_with fail
      refine (CM.out _).mono ?_
      rintro e W2 ⟨rfl, g⟩
      rw [HNF.out]
      have H2 := Lib.hid (grownBy_trans H1.out g)
      clear g H1
      go_wp2_with fail
      refine (awake_n _).mono ?_
      rintro e W3 ⟨rfl, g⟩
      have H3 := Lib.hid (grownBy_trans H2.out g)
      clear g H2
      go_wp2_with fail
      refine (CE0.out _).mono ?_
      rintro e W4 ⟨rfl, g⟩
      have H4 := Lib.hid (grownBy_trans H3.out g)
      clear g H3
      go_wp2_with fail
      refine (CE.out _).mono ?_
      rintro e W5 ⟨rfl, g⟩
      have H5 := Lib.hid (grownBy_trans H4.out g)
      clear g H4
      go_wp2_with fail
      refine (CE.out _).mono ?_
      rintro e W6 ⟨rfl, g⟩
      have H6 := Lib.hid (grownBy_trans H5.out g)
      clear g H5
      go_wp2_with fail
      refine (mulI _ rfl (show ((2 : UInt8).toNat : Int) = 2 from rfl) G1.out).mono ?_
      rintro e w' ⟨rfl, rfl⟩
      go_wp2_with fail
      refine (CE1.out _).mono ?_
      rintro e W7 ⟨rfl, g⟩
      have H7 := Lib.hid (grownBy_trans H6.out g)
      clear g H6
      go_wp2_with fail
      refine (CE.out _).mono ?_
      rintro e W8 ⟨rfl, g⟩
      have H8 := Lib.hid (grownBy_trans H7.out g)
      clear g H7
      go_wp2_with fail
      refine (CE2.out _).mono ?_
      rintro e W9 ⟨rfl, g⟩
      have H9 := Lib.hid (grownBy_trans H8.out g)
      clear g H8
      go_wp2_with fail
      refine (mulI _ rfl rfl G2.out).mono ?_
      rintro e w' ⟨rfl, rfl⟩
      go_wp2_with fail
      refine (CP.out _).mono ?_
      rintro e W10 ⟨rfl, g⟩
      have H10 := Lib.hid (grownBy_trans H9.out g)
      clear g H9
      go_wp2_with fail
      refine (CP1.out _).mono ?_
      rintro e W11 ⟨rfl, g⟩
      have H11 := Lib.hid (grownBy_trans H10.out g)
      clear g H10
      go_wp2_with fail
      go_ret
      exact ⟨rfl, H11.out⟩
  exact hcase _ _ rfl rfl

end Go.Proofs.Ytfikeilpgnahkaa
