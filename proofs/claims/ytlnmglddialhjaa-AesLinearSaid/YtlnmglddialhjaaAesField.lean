/- AesField: the walk. -/
import Derived.Test.YtlnmglddialhjaaAesAwake
namespace Go.Proofs.Ytlnmglddialhjaa
open Go.RowKit

theorem prodV {x y : Int} {a b r : UInt8} (w : World) (hx : (a.toNat : Int) = x) (hy : (b.toNat : Int) = y) (hr : am a b = r) :
    Calls Try.prog 14 #[.int .u8 x, .int .u8 y] w fun e w' => e = .returned (.int .u8 (r.toNat : Int)) ∧ w = w' := by
  rw [← hr]
  exact prod_i x y a b w hx hy

set_option maxRecDepth 100000 in
set_option maxHeartbeats 2000000 in
theorem field_walk (a b c : UInt8) (w : World) :
    Calls Try.prog 6 #[.int .u8 (a.toNat : Int), .int .u8 (b.toNat : Int), .int .u8 (c.toNat : Int)] w fun e w' => e = .returned (.bool true) ∧ w.grownBy w' none := by
  obtain ⟨p1, h1⟩ : ∃ p, p = am a b := ⟨_, rfl⟩
  obtain ⟨p2, h2⟩ : ∃ p, p = am b c := ⟨_, rfl⟩
  obtain ⟨p3, h3⟩ : ∃ p, p = am a p2 := ⟨_, rfl⟩
  obtain ⟨v1, k1⟩ : ∃ p, p = b ^^^ c := ⟨_, rfl⟩
  obtain ⟨p4, h4⟩ : ∃ p, p = am a v1 := ⟨_, rfl⟩
  obtain ⟨p5, h5⟩ : ∃ p, p = am a c := ⟨_, rfl⟩
  obtain ⟨i, h6⟩ : ∃ p, p = ainv a := ⟨_, rfl⟩
  have H1 := Lib.hid h1.symm
  have H1' := Lib.hid (show am b a = p1 by rw [am_comm, h1])
  have H2 := Lib.hid h2.symm
  have H3 := Lib.hid h3.symm
  have H3' := Lib.hid (show am p1 c = p3 by rw [h3, h2, h1, am_assoc])
  have H4 := Lib.hid h4.symm
  have H5 := Lib.hid h5.symm
  have H7 := Lib.hid (am_one a)
  have H8 := Lib.hid (am_zero_right a)
  have H9 := Lib.hid (show a ≠ 0 → am a i = 1 from fun h => by rw [h6]; exact am_inv h)
  have e1 := xor_u8 b c
  rw [← k1] at e1
  have e2 := xor_u8 p1 p5
  rw [show p1 ^^^ p5 = p4 by rw [h1, h5, h4, k1, am_add_right]] at e2
  have HI := Lib.hid (fun w1 : World => by have h := inverse_i (a.toNat : Int) a w1 rfl; rw [← h6] at h; exact h)
  clear h1 h2 h3 k1 h4 h5 h6
  go_enter Try.func6, Try.ntmps6
  go_wp2_with fail
  refine (prodV _ rfl rfl H1.out).mono ?_
  rintro e w' ⟨rfl, rfl⟩
  go_wp2_with fail
  refine (prodV _ rfl rfl H1'.out).mono ?_
  rintro e w' ⟨rfl, rfl⟩
  go_wp2_with fail
  refine (prodV _ rfl rfl H2.out).mono ?_
  rintro e w' ⟨rfl, rfl⟩
  go_wp2_with fail
  refine (prodV _ rfl rfl H3.out).mono ?_
  rintro e w' ⟨rfl, rfl⟩
  go_wp2_with fail
  refine (prodV _ rfl rfl H1.out).mono ?_
  rintro e w' ⟨rfl, rfl⟩
  go_wp2_with fail
  refine (prodV _ rfl rfl H3'.out).mono ?_
  rintro e w' ⟨rfl, rfl⟩
  go_wp2_with fail
  refine (prodV _ rfl rfl H4.out).mono ?_
  rintro e w' ⟨rfl, rfl⟩
  go_wp2_with fail
  refine (prodV _ rfl rfl H1.out).mono ?_
  rintro e w' ⟨rfl, rfl⟩
  go_wp2_with fail
  refine (prodV _ rfl rfl H5.out).mono ?_
  rintro e w' ⟨rfl, rfl⟩
  go_wp2_with fail
  refine (prodV _ rfl (show (((1 : UInt8)).toNat : Int) = 1 from rfl) H7.out).mono ?_
  rintro e w' ⟨rfl, rfl⟩
  go_wp2_with fail
  refine (prodV _ rfl (show (((0 : UInt8)).toNat : Int) = 0 from rfl) H8.out).mono ?_
  rintro e w' ⟨rfl, rfl⟩
  by_cases ha : a = 0
  · subst ha
    have z0 : ((0 : UInt8).toNat : Int) = 0 := rfl
    have H10 := Lib.hid (show am 0 i = 0 from am_zero_left i)
    rw [z0] at HI ⊢
    go_wp2_with fail
    refine (HI.out _).mono ?_
    rintro e w' ⟨rfl, rfl⟩
    go_wp2_with fail
    refine (prodV _ z0 rfl H10.out).mono ?_
    rintro e w' ⟨rfl, rfl⟩
    rw [z0]
    go_wp2_with fail
    refine (awake_n _).mono ?_
    rintro e w' ⟨rfl, hg⟩
    have HG := Lib.hid hg
    clear hg
    go_wp2_with fail
    go_ret
    exact ⟨rfl, HG.out⟩
  · have hne : ((a.toNat : Int) == 0) = false := by
      rw [beq_eq_false_iff_ne]
      intro h
      exact ha (UInt8.toNat_inj.1 (by have : a.toNat = 0 := by omega
                                      rw [this]; rfl))
    have H10 := Lib.hid (H9.out ha)
    have hne' : (a.toNat : Int) ≠ 0 := by simpa using hne
    go_wp2_with fail
    refine (HI.out _).mono ?_
    rintro e w' ⟨rfl, rfl⟩
    go_wp2_with fail
    refine (prodV _ rfl rfl H10.out).mono ?_
    rintro e w' ⟨rfl, rfl⟩
    have z1 : ((1 : UInt8).toNat : Int) = 1 := rfl
    rw [z1]
    go_wp2_with fail
    refine (awake_n _).mono ?_
    rintro e w' ⟨rfl, hg⟩
    have HG := Lib.hid hg
    clear hg
    go_wp2_with fail
    go_ret
    exact ⟨rfl, HG.out⟩

end Go.Proofs.Ytlnmglddialhjaa
