/- The law GfLaws. -/
import Derived.Test.YtfikeilpgnahkaaGfAwake
namespace Go.Proofs.Ytfikeilpgnahkaa
open Go.RowKit

theorem mulI {x y r : Int} {a b : UInt8} (w : World) (hx : (a.toNat : Int) = x) (hy : (b.toNat : Int) = y) (hr : ((gm a b).toNat : Int) = r) :
    Calls Try.prog 19 #[.int .u8 x, .int .u8 y] w fun e w' => e = .returned (.int .u8 r) ∧ w = w' := by
  rw [← hr]
  exact mul_i x y a b w hx hy
theorem addI {x y r : Int} {a b : UInt8} (w : World) (hx : (a.toNat : Int) = x) (hy : (b.toNat : Int) = y) (hr : ((a ^^^ b).toNat : Int) = r) :
    Calls Try.prog 13 #[.int .u8 x, .int .u8 y] w fun e w' => e = .returned (.int .u8 r) ∧ w = w' := by
  subst hx hy hr
  have h := xor_u8 a b
  go_enter Try.func13, Try.ntmps13
  go_wp2
  go_ret
  first | exact ⟨rfl, rfl⟩ | (rw [UInt8.toNat_xor]; exact ⟨rfl, rfl⟩)
theorem z0 : ((0 : UInt8).toNat : Int) = 0 := rfl
theorem z1 : ((1 : UInt8).toNat : Int) = 1 := rfl
theorem u8_zero (a : UInt8) : ((a.toNat : Int) == 0) = decide (a = 0) := by
  rw [← z0, u8_beq]

set_option maxRecDepth 100000 in
set_option maxHeartbeats 2000000 in
theorem laws_walk (a b c : UInt8) (w : World) :
    Calls Try.prog 9 #[.int .u8 (a.toNat : Int), .int .u8 (b.toNat : Int), .int .u8 (c.toNat : Int)] w fun e w' => e = .returned (.bool true) ∧ w.grownBy w' none := by
  obtain ⟨p1, h1⟩ : ∃ p, p = gm a b := ⟨_, rfl⟩
  obtain ⟨p2, h2⟩ : ∃ p, p = gm b c := ⟨_, rfl⟩
  obtain ⟨p3, h3⟩ : ∃ p, p = gm a p2 := ⟨_, rfl⟩
  obtain ⟨s1, k1⟩ : ∃ p, p = a ^^^ b := ⟨_, rfl⟩
  obtain ⟨s2, k2⟩ : ∃ p, p = b ^^^ c := ⟨_, rfl⟩
  obtain ⟨s3, k3⟩ : ∃ p, p = a ^^^ s2 := ⟨_, rfl⟩
  obtain ⟨q1, h4⟩ : ∃ p, p = gm a s2 := ⟨_, rfl⟩
  obtain ⟨q2, h5⟩ : ∃ p, p = gm a c := ⟨_, rfl⟩
  have S1 := Lib.hid (show ((a ^^^ b).toNat : Int) = (s1.toNat : Int) by rw [k1])
  have S1' := Lib.hid (show ((b ^^^ a).toNat : Int) = (s1.toNat : Int) by rw [k1, UInt8.xor_comm])
  have S2 := Lib.hid (show ((b ^^^ c).toNat : Int) = (s2.toNat : Int) by rw [k2])
  have S3 := Lib.hid (show ((a ^^^ s2).toNat : Int) = (s3.toNat : Int) by rw [k3])
  have S3' := Lib.hid (show ((s1 ^^^ c).toNat : Int) = (s3.toNat : Int) by rw [k3, k1, k2, UInt8.xor_assoc])
  have S4 := Lib.hid (show ((a ^^^ a).toNat : Int) = 0 by rw [xor_self8]; rfl)
  have S5 := Lib.hid (show ((a ^^^ 0).toNat : Int) = (a.toNat : Int) by simp)
  have P1 := Lib.hid (show ((gm a b).toNat : Int) = (p1.toNat : Int) by rw [h1])
  have P1' := Lib.hid (show ((gm b a).toNat : Int) = (p1.toNat : Int) by rw [h1, gm_comm])
  have P2 := Lib.hid (show ((gm b c).toNat : Int) = (p2.toNat : Int) by rw [h2])
  have P3 := Lib.hid (show ((gm a p2).toNat : Int) = (p3.toNat : Int) by rw [h3])
  have P3' := Lib.hid (show ((gm p1 c).toNat : Int) = (p3.toNat : Int) by rw [h3, h2, h1, gm_assoc])
  have P4 := Lib.hid (show ((gm a 1).toNat : Int) = (a.toNat : Int) by rw [gm_one])
  have Q1 := Lib.hid (show ((gm a s2).toNat : Int) = (q1.toNat : Int) by rw [h4])
  have Q2 := Lib.hid (show ((gm a c).toNat : Int) = (q2.toNat : Int) by rw [h5])
  have Q3 := Lib.hid (show ((p1 ^^^ q2).toNat : Int) = (q1.toNat : Int) by rw [h4, h1, h5, k2, gm_add_right])
  have ea := u8_zero a
  have eb := u8_zero b
  have ep := u8_zero p1
  have hpz : decide (p1 = 0) = (decide (a = 0) || decide (b = 0)) := by
    rw [h1, Bool.eq_iff_iff]; simp [gm_eq_zero]
  rw [hpz] at ep
  have I1 := Lib.hid (fun h : a ≠ 0 => show ((gm a (ginv a)).toNat : Int) = 1 by rw [gm_inv h]; rfl)
  have I2 := Lib.hid (fun h : a ≠ 0 => show ((gm (gm b (ginv a)) a).toNat : Int) = (b.toNat : Int) by rw [← gm_assoc, gm_comm (ginv a) a, gm_inv h, gm_one])
  clear h1 h2 h3 k1 k2 k3 h4 h5 hpz
  have hcase : ∀ za zb : Bool, decide (a = 0) = za → decide (b = 0) = zb → Calls Try.prog 9 #[.int .u8 (a.toNat : Int), .int .u8 (b.toNat : Int), .int .u8 (c.toNat : Int)] w fun e w' => e = .returned (.bool true) ∧ w.grownBy w' none := by
    intro za zb hza hzb
    rw [hza] at ea ep
    rw [hzb] at eb ep
    have HZA := Lib.hid hza
    clear hza hzb
    have hii : ∀ W : World, Calls Try.prog 21 #[.int .u8 (a.toNat : Int)] W fun e w' => e = .returned (.tuple #[.int .u8 ((ginv a).toNat : Nat), .int .i64 (noughtE a : Nat)]) ∧ W = w' := fun W => inv_i _ a W rfl
    have hnE : noughtE a = if za = true then 60 else 0 := by
      unfold noughtE
      have := HZA.out
      cases za <;> simp_all
    cases za <;> cases zb <;> simp only [Bool.or_false, Bool.or_true, Bool.false_eq_true, if_true, if_false] at ep hnE
    all_goals
      go_enter Try.func9, Try.ntmps9
      go_wp2_with fail
      refine (addI _ rfl rfl S1.out).mono ?_
      rintro e w' ⟨rfl, rfl⟩
      go_wp2_with fail
      refine (addI _ rfl rfl S1'.out).mono ?_
      rintro e w' ⟨rfl, rfl⟩
      go_wp2_with fail
      refine (addI _ rfl rfl S2.out).mono ?_
      rintro e w' ⟨rfl, rfl⟩
      go_wp2_with fail
      refine (addI _ rfl rfl S3.out).mono ?_
      rintro e w' ⟨rfl, rfl⟩
      go_wp2_with fail
      refine (addI _ rfl rfl S1.out).mono ?_
      rintro e w' ⟨rfl, rfl⟩
      go_wp2_with fail
      refine (addI _ rfl rfl S3'.out).mono ?_
      rintro e w' ⟨rfl, rfl⟩
      go_wp2_with fail
      refine (addI _ rfl rfl S4.out).mono ?_
      rintro e w' ⟨rfl, rfl⟩
      go_wp2_with fail
      refine (addI _ rfl z0 S5.out).mono ?_
      rintro e w' ⟨rfl, rfl⟩
      go_wp2_with fail
      refine (mulI _ rfl rfl P1.out).mono ?_
      rintro e w' ⟨rfl, rfl⟩
      go_wp2_with fail
      refine (mulI _ rfl rfl P1'.out).mono ?_
      rintro e w' ⟨rfl, rfl⟩
      go_wp2_with fail
      refine (mulI _ rfl rfl P2.out).mono ?_
      rintro e w' ⟨rfl, rfl⟩
      go_wp2_with fail
      refine (mulI _ rfl rfl P3.out).mono ?_
      rintro e w' ⟨rfl, rfl⟩
      go_wp2_with fail
      refine (mulI _ rfl rfl P1.out).mono ?_
      rintro e w' ⟨rfl, rfl⟩
      go_wp2_with fail
      refine (mulI _ rfl rfl P3'.out).mono ?_
      rintro e w' ⟨rfl, rfl⟩
      go_wp2_with fail
      refine (mulI _ rfl z1 P4.out).mono ?_
      rintro e w' ⟨rfl, rfl⟩
      go_wp2_with fail
      refine (addI _ rfl rfl S2.out).mono ?_
      rintro e w' ⟨rfl, rfl⟩
      go_wp2_with fail
      refine (mulI _ rfl rfl Q1.out).mono ?_
      rintro e w' ⟨rfl, rfl⟩
      go_wp2_with fail
      refine (mulI _ rfl rfl P1.out).mono ?_
      rintro e w' ⟨rfl, rfl⟩
      go_wp2_with fail
      refine (mulI _ rfl rfl Q2.out).mono ?_
      rintro e w' ⟨rfl, rfl⟩
      go_wp2_with fail
      refine (addI _ rfl rfl Q3.out).mono ?_
      rintro e w' ⟨rfl, rfl⟩
      go_wp2_with fail
      refine (mulI _ rfl rfl P1.out).mono ?_
      rintro e w' ⟨rfl, rfl⟩
      go_wp2_with fail
      refine (hii _).mono ?_
      rintro e w' ⟨rfl, rfl⟩
      rw [hnE]
      go_wp2_with fail
      refine (div_i _ _ b a _ rfl rfl).mono ?_
      rintro e w' ⟨rfl, rfl⟩
      rw [hnE]
      go_wp2_with fail
    · refine (mulI _ rfl rfl (I1.out (by simpa using HZA.out))).mono ?_
      rintro e w' ⟨rfl, rfl⟩
      go_wp2_with fail
      refine (mulI _ rfl rfl (I2.out (by simpa using HZA.out))).mono ?_
      rintro e w' ⟨rfl, rfl⟩
      go_wp2_with fail
      refine (awake_n _).mono ?_
      rintro e w' ⟨rfl, hg⟩
      have HG := Lib.hid hg
      clear hg
      go_wp2_with fail
      go_ret
      exact ⟨rfl, HG.out⟩
    · refine (mulI _ rfl rfl (I1.out (by simpa using HZA.out))).mono ?_
      rintro e w' ⟨rfl, rfl⟩
      go_wp2_with fail
      refine (mulI _ rfl rfl (I2.out (by simpa using HZA.out))).mono ?_
      rintro e w' ⟨rfl, rfl⟩
      go_wp2_with fail
      refine (awake_n _).mono ?_
      rintro e w' ⟨rfl, hg⟩
      have HG := Lib.hid hg
      clear hg
      go_wp2_with fail
      go_ret
      exact ⟨rfl, HG.out⟩
    all_goals
      refine (awake_n _).mono ?_
      rintro e w' ⟨rfl, hg⟩
      have HG := Lib.hid hg
      clear hg
      go_wp2_with fail
      go_ret
      exact ⟨rfl, HG.out⟩
  exact hcase _ _ rfl rfl

end Go.Proofs.Ytfikeilpgnahkaa
