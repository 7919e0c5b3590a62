/- aes: Sub, Unsub; the document's. -/
import Derived.Test.YtlnmglddialhjaaAesInv
namespace Go.Proofs.Ytlnmglddialhjaa
open Go.RowKit

def asubB (b : Nat) : Nat := ((((b ^^^ rotN 1 b) ^^^ rotN 2 b) ^^^ rotN 3 b) ^^^ rotN 4 b) ^^^ 99
def asub (a : UInt8) : UInt8 := UInt8.ofNat (asubB (ainv a).toNat)
def aunB (a : Nat) : Nat := ((rotN 1 a ^^^ rotN 3 a) ^^^ rotN 6 a) ^^^ 5
def aunsub (a : UInt8) : UInt8 := ainv (UInt8.ofNat (aunB a.toNat))
/-- bit number i modulo 8 -/
def bitN (b i : Nat) : Nat := b / 2 ^ (i % 8) % 2
def xbN (b i : Nat) : Nat := ((((bitN b i ^^^ bitN b (i + 4)) ^^^ bitN b (i + 5)) ^^^ bitN b (i + 6)) ^^^ bitN b (i + 7)) ^^^ bitN 99 i
def accN (b : Nat) : Nat → Nat
  | 0 => 0
  | k + 1 => accN b k ||| (xbN b k * 2 ^ k % 256)

theorem x_lt {a b : Nat} (ha : a < 256) (hb : b < 256) : a ^^^ b < 256 := Nat.xor_lt_two_pow (n := 8) ha hb
theorem bitN_lt (b i : Nat) : bitN b i < 256 := by unfold bitN; omega
theorem accN_lt (b k : Nat) : accN b k < 256 := by
  induction k with
  | zero => show 0 < 256; omega
  | succ k ih => exact Nat.or_lt_two_pow (n := 8) ih (by omega)
theorem asubB_lt {b : Nat} (hb : b < 256) : asubB b < 256 := by
  unfold asubB
  exact x_lt (x_lt (x_lt (x_lt (x_lt hb (rotN_lt hb (by omega))) (rotN_lt hb (by omega))) (rotN_lt hb (by omega))) (rotN_lt hb (by omega))) (by omega)
theorem aunB_lt {b : Nat} (hb : b < 256) : aunB b < 256 := by
  unfold aunB
  exact x_lt (x_lt (x_lt (rotN_lt hb (by omega)) (rotN_lt hb (by omega))) (rotN_lt hb (by omega))) (by omega)
theorem all256 {p : UInt8 → Bool} (h : (List.range 256).all (fun i => p (UInt8.ofNat i)) = true) (a : UInt8) : p a = true := by
  have := List.all_eq_true.1 h a.toNat (by simpa using a.toNat_lt)
  rwa [UInt8.ofNat_toNat] at this
theorem ofNat_u8 {n : Nat} (h : n < 256) : (UInt8.ofNat n).toNat = n := by rw [UInt8.toNat_ofNat', Nat.mod_eq_of_lt h]
theorem acc_sub (a : UInt8) : accN (ainv a).toNat 8 = asubB (ainv a).toNat := by
  have := all256 (p := fun b => accN b.toNat 8 == asubB b.toNat) (by decide +kernel) (ainv a)
  simpa using this
theorem un_sub (a : UInt8) : aunsub (asub a) = a := by
  have := all256 (p := fun b => aunsub (asub b) == b) (by decide +kernel) a
  simpa using this
theorem sub_un (a : UInt8) : asub (aunsub a) = a := by
  have := all256 (p := fun b => asub (aunsub b) == b) (by decide +kernel) a
  simpa using this

set_option maxRecDepth 100000 in
set_option maxHeartbeats 1000000 in
theorem sub_i (x : Int) (a : UInt8) (w : World) (hx : (a.toNat : Int) = x) :
    Calls Try.prog 18 #[.int .u8 x] w fun e w' => e = .returned (.int .u8 ((asub a).toNat : Nat)) ∧ w = w' := by
  subst hx
  have e : (asub a).toNat = asubB (ainv a).toNat := ofNat_u8 (asubB_lt (ainv a).toNat_lt)
  rw [e]
  clear e
  have hb := (ainv a).toNat_lt
  obtain ⟨b, hbe⟩ : ∃ b, b = (ainv a).toNat := ⟨_, rfl⟩
  have hc := fun w => inverse_i _ a w rfl
  rw [← hbe] at hb hc ⊢
  have HC := Lib.hid hc
  clear hc hbe
  obtain ⟨r1, e1⟩ : ∃ r, r = rotN 1 b := ⟨_, rfl⟩
  obtain ⟨r2, e2⟩ : ∃ r, r = rotN 2 b := ⟨_, rfl⟩
  obtain ⟨r3, e3⟩ : ∃ r, r = rotN 3 b := ⟨_, rfl⟩
  obtain ⟨r4, e4⟩ : ∃ r, r = rotN 4 b := ⟨_, rfl⟩
  have l1 : r1 < 256 := e1 ▸ rotN_lt hb (by omega)
  have l2 : r2 < 256 := e2 ▸ rotN_lt hb (by omega)
  have l3 : r3 < 256 := e3 ▸ rotN_lt hb (by omega)
  have l4 : r4 < 256 := e4 ▸ rotN_lt hb (by omega)
  have t1 := fun w => turn_any b 1 hb (by omega) w
  have t2 := fun w => turn_any b 2 hb (by omega) w
  have t3 := fun w => turn_any b 3 hb (by omega) w
  have t4 := fun w => turn_any b 4 hb (by omega) w
  have x1 := xor_val b r1 hb l1
  have x2 := xor_val (b ^^^ r1) r2 (x_lt hb l1) l2
  have x3 := xor_val ((b ^^^ r1) ^^^ r2) r3 (x_lt (x_lt hb l1) l2) l3
  have x4 := xor_val (((b ^^^ r1) ^^^ r2) ^^^ r3) r4 (x_lt (x_lt (x_lt hb l1) l2) l3) l4
  have x5 := xor_val ((((b ^^^ r1) ^^^ r2) ^^^ r3) ^^^ r4) 99 (x_lt (x_lt (x_lt (x_lt hb l1) l2) l3) l4) (by omega)
  have x5' : bits .xor .u8 (((((b ^^^ r1) ^^^ r2) ^^^ r3) ^^^ r4 : Nat) : Int) 99 = ((((((b ^^^ r1) ^^^ r2) ^^^ r3) ^^^ r4) ^^^ 99 : Nat) : Int) := x5
  unfold asubB
  rw [← e1, ← e2, ← e3, ← e4]
  rw [← e1] at t1
  rw [← e2] at t2
  rw [← e3] at t3
  rw [← e4] at t4
  have T1 := Lib.hid t1
  have T2 := Lib.hid t2
  have T3 := Lib.hid t3
  have T4 := Lib.hid t4
  clear t1 t2 t3 t4 e1 e2 e3 e4 l1 l2 l3 l4 x5
  go_enter Try.func18, Try.ntmps18
  go_wp2_with fail
  refine (HC.out _).mono ?_
  rintro e w' ⟨rfl, rfl⟩
  go_wp2_with fail
  refine (T1.out _).mono ?_
  rintro e w' ⟨rfl, rfl⟩
  go_wp2_with fail
  refine (T2.out _).mono ?_
  rintro e w' ⟨rfl, rfl⟩
  go_wp2_with fail
  refine (T3.out _).mono ?_
  rintro e w' ⟨rfl, rfl⟩
  go_wp2_with fail
  refine (T4.out _).mono ?_
  rintro e w' ⟨rfl, rfl⟩
  go_wp2_with fail
  go_ret
  exact ⟨rfl, rfl⟩

set_option maxRecDepth 100000 in
set_option maxHeartbeats 1000000 in
theorem unsub_i (x : Int) (a : UInt8) (w : World) (hx : (a.toNat : Int) = x) :
    Calls Try.prog 20 #[.int .u8 x] w fun e w' => e = .returned (.int .u8 ((aunsub a).toNat : Nat)) ∧ w = w' := by
  subst hx
  have hb := a.toNat_lt
  have hc := fun w => inverse_i ((aunB a.toNat : Nat) : Int) (UInt8.ofNat (aunB a.toNat)) w (by rw [ofNat_u8 (aunB_lt hb)])
  unfold aunsub
  obtain ⟨r, hr⟩ : ∃ r, r = ainv (UInt8.ofNat (aunB a.toNat)) := ⟨_, rfl⟩
  rw [← hr] at hc ⊢
  clear hr
  obtain ⟨b, hbe⟩ : ∃ b, b = a.toNat := ⟨_, rfl⟩
  rw [← hbe] at hb hc ⊢
  clear hbe
  obtain ⟨r1, e1⟩ : ∃ r, r = rotN 1 b := ⟨_, rfl⟩
  obtain ⟨r3, e3⟩ : ∃ r, r = rotN 3 b := ⟨_, rfl⟩
  obtain ⟨r6, e6⟩ : ∃ r, r = rotN 6 b := ⟨_, rfl⟩
  have l1 : r1 < 256 := e1 ▸ rotN_lt hb (by omega)
  have l3 : r3 < 256 := e3 ▸ rotN_lt hb (by omega)
  have l6 : r6 < 256 := e6 ▸ rotN_lt hb (by omega)
  have t1 := fun w => turn_any b 1 hb (by omega) w
  have t3 := fun w => turn_any b 3 hb (by omega) w
  have t6 := fun w => turn_any b 6 hb (by omega) w
  have x1 := xor_val r1 r3 l1 l3
  have x2 := xor_val (r1 ^^^ r3) r6 (x_lt l1 l3) l6
  have x3 := xor_val ((r1 ^^^ r3) ^^^ r6) 5 (x_lt (x_lt l1 l3) l6) (by omega)
  have x3' : bits .xor .u8 (((r1 ^^^ r3) ^^^ r6 : Nat) : Int) 5 = ((((r1 ^^^ r3) ^^^ r6) ^^^ 5 : Nat) : Int) := x3
  unfold aunB at hc
  rw [← e1, ← e3, ← e6] at hc
  rw [← e1] at t1
  rw [← e3] at t3
  rw [← e6] at t6
  have HC := Lib.hid hc
  have T1 := Lib.hid t1
  have T3 := Lib.hid t3
  have T6 := Lib.hid t6
  clear hc t1 t3 t6 e1 e3 e6 l1 l3 l6 x3
  go_enter Try.func20, Try.ntmps20
  go_wp2_with fail
  refine (T1.out _).mono ?_
  rintro e w' ⟨rfl, rfl⟩
  go_wp2_with fail
  refine (T3.out _).mono ?_
  rintro e w' ⟨rfl, rfl⟩
  go_wp2_with fail
  refine (T6.out _).mono ?_
  rintro e w' ⟨rfl, rfl⟩
  go_wp2_with fail
  refine (HC.out _).mono ?_
  rintro e w' ⟨rfl, rfl⟩
  go_wp2_with fail
  go_ret
  exact ⟨rfl, rfl⟩

set_option maxRecDepth 100000 in
set_option maxHeartbeats 1000000 in
theorem bit_i (x y : Int) (b i : Nat) (w : World) (hx : (b : Int) = x) (hy : (i : Int) = y) (hb : b < 256) (hi : i < 15) :
    Calls Try.prog 52 #[.int .u8 x, .int .i64 y] w fun e w' => e = .returned (.int .u8 (bitN b i : Nat)) ∧ w = w' := by
  subst hx; subst hy
  have h1 := and_one (b / 2 ^ (i % 8)) (by have := Nat.div_le_self b (2 ^ (i % 8)); omega)
  have H1 := Lib.hid h1
  clear h1
  rcases (by omega : i = 0 ∨ i = 1 ∨ i = 2 ∨ i = 3 ∨ i = 4 ∨ i = 5 ∨ i = 6 ∨ i = 7 ∨ i = 8 ∨ i = 9 ∨ i = 10 ∨ i = 11 ∨ i = 12 ∨ i = 13 ∨ i = 14) with rfl | rfl | rfl | rfl | rfl | rfl | rfl | rfl | rfl | rfl | rfl | rfl | rfl | rfl | rfl
  all_goals
    go_enter Try.func52, Try.ntmps52
    go_wp2
    go_ret
    refine ⟨congrArg Ending.returned (congrArg (Value.int .u8) ?_), rfl⟩
    have := H1.out
    simpa [bitN] using this

set_option maxRecDepth 100000 in
set_option maxHeartbeats 4000000 in
theorem refSub_i (x : Int) (a : UInt8) (w : World) (hx : (a.toNat : Int) = x) :
    Calls Try.prog 19 #[.int .u8 x] w fun e w' => e = .returned (.int .u8 ((asub a).toNat : Nat)) ∧ w = w' := by
  subst hx
  have e : (asub a).toNat = asubB (ainv a).toNat := ofNat_u8 (asubB_lt (ainv a).toNat_lt)
  rw [e, ← acc_sub]
  clear e
  have hb := (ainv a).toNat_lt
  obtain ⟨b, hbe⟩ : ∃ b, b = (ainv a).toNat := ⟨_, rfl⟩
  have hc := fun w => refInverse_i _ a w rfl
  rw [← hbe] at hb hc ⊢
  have HC := Lib.hid hc
  clear hc hbe
  go_enter Try.func19, Try.ntmps19
  go_wp2_with fail
  refine (HC.out _).mono ?_
  rintro e w' ⟨rfl, rfl⟩
  go_wp2_with fail
  go_loop [4, 5] (fun vo vi => ∃ k : Nat, k ≤ 8 ∧ vi = .int .i64 k ∧ vo = .int .u8 (accN b k : Nat)) (fun _ vi => 8 - (intOf vi).toNat)
  case atStart => exact ⟨0, by omega, rfl, rfl⟩
  case round =>
    obtain ⟨k, hk, rfl, rfl⟩ := hrel
    rcases (by omega : k = 0 ∨ k = 1 ∨ k = 2 ∨ k = 3 ∨ k = 4 ∨ k = 5 ∨ k = 6 ∨ k = 7 ∨ k = 8) with rfl | rfl | rfl | rfl | rfl | rfl | rfl | rfl | rfl
    · -- round 0
      have l0 := bitN_lt b 0
      have l4 := bitN_lt b 4
      have l5 := bitN_lt b 5
      have l6 := bitN_lt b 6
      have l7 := bitN_lt b 7
      have l9 := bitN_lt 99 0
      have x1 := xor_val _ _ l0 l4
      have x2 := xor_val _ _ (x_lt l0 l4) l5
      have x3 := xor_val _ _ (x_lt (x_lt l0 l4) l5) l6
      have x4 := xor_val _ _ (x_lt (x_lt (x_lt l0 l4) l5) l6) l7
      have x5 := xor_val _ _ (x_lt (x_lt (x_lt (x_lt l0 l4) l5) l6) l7) l9
      have ho := u8_or_nat (accN b 0) (xbN b 0 * 2 ^ 0 % 256) (accN_lt b 0) (by omega)
      have HO := Lib.hid ho
      clear ho l0 l4 l5 l6 l7 l9
      go_wp2_with fail
      refine (bit_i _ _ b 0 _ rfl rfl (by omega) (by omega)).mono ?_
      rintro e w' ⟨rfl, rfl⟩
      go_wp2_with fail
      refine (bit_i _ _ b 4 _ rfl rfl (by omega) (by omega)).mono ?_
      rintro e w' ⟨rfl, rfl⟩
      go_wp2_with fail
      refine (bit_i _ _ b 5 _ rfl rfl (by omega) (by omega)).mono ?_
      rintro e w' ⟨rfl, rfl⟩
      go_wp2_with fail
      refine (bit_i _ _ b 6 _ rfl rfl (by omega) (by omega)).mono ?_
      rintro e w' ⟨rfl, rfl⟩
      go_wp2_with fail
      refine (bit_i _ _ b 7 _ rfl rfl (by omega) (by omega)).mono ?_
      rintro e w' ⟨rfl, rfl⟩
      go_wp2_with fail
      refine (bit_i _ _ 99 0 _ rfl rfl (by omega) (by omega)).mono ?_
      rintro e w' ⟨rfl, rfl⟩
      go_wp2_with fail
      go_round
      case rel =>
        refine ⟨1, by omega, rfl, congrArg (Value.int .u8) ?_⟩
        have := HO.out
        simpa [accN, xbN] using this
      case measure => simp [intOf]
    · -- round 1
      have l0 := bitN_lt b 1
      have l4 := bitN_lt b 5
      have l5 := bitN_lt b 6
      have l6 := bitN_lt b 7
      have l7 := bitN_lt b 8
      have l9 := bitN_lt 99 1
      have x1 := xor_val _ _ l0 l4
      have x2 := xor_val _ _ (x_lt l0 l4) l5
      have x3 := xor_val _ _ (x_lt (x_lt l0 l4) l5) l6
      have x4 := xor_val _ _ (x_lt (x_lt (x_lt l0 l4) l5) l6) l7
      have x5 := xor_val _ _ (x_lt (x_lt (x_lt (x_lt l0 l4) l5) l6) l7) l9
      have ho := u8_or_nat (accN b 1) (xbN b 1 * 2 ^ 1 % 256) (accN_lt b 1) (by omega)
      have HO := Lib.hid ho
      clear ho l0 l4 l5 l6 l7 l9
      go_wp2_with fail
      refine (bit_i _ _ b 1 _ rfl rfl (by omega) (by omega)).mono ?_
      rintro e w' ⟨rfl, rfl⟩
      go_wp2_with fail
      refine (bit_i _ _ b 5 _ rfl rfl (by omega) (by omega)).mono ?_
      rintro e w' ⟨rfl, rfl⟩
      go_wp2_with fail
      refine (bit_i _ _ b 6 _ rfl rfl (by omega) (by omega)).mono ?_
      rintro e w' ⟨rfl, rfl⟩
      go_wp2_with fail
      refine (bit_i _ _ b 7 _ rfl rfl (by omega) (by omega)).mono ?_
      rintro e w' ⟨rfl, rfl⟩
      go_wp2_with fail
      refine (bit_i _ _ b 8 _ rfl rfl (by omega) (by omega)).mono ?_
      rintro e w' ⟨rfl, rfl⟩
      go_wp2_with fail
      refine (bit_i _ _ 99 1 _ rfl rfl (by omega) (by omega)).mono ?_
      rintro e w' ⟨rfl, rfl⟩
      go_wp2_with fail
      go_round
      case rel =>
        refine ⟨2, by omega, rfl, congrArg (Value.int .u8) ?_⟩
        have := HO.out
        simpa [accN, xbN] using this
      case measure => simp [intOf]
    · -- round 2
      have l0 := bitN_lt b 2
      have l4 := bitN_lt b 6
      have l5 := bitN_lt b 7
      have l6 := bitN_lt b 8
      have l7 := bitN_lt b 9
      have l9 := bitN_lt 99 2
      have x1 := xor_val _ _ l0 l4
      have x2 := xor_val _ _ (x_lt l0 l4) l5
      have x3 := xor_val _ _ (x_lt (x_lt l0 l4) l5) l6
      have x4 := xor_val _ _ (x_lt (x_lt (x_lt l0 l4) l5) l6) l7
      have x5 := xor_val _ _ (x_lt (x_lt (x_lt (x_lt l0 l4) l5) l6) l7) l9
      have ho := u8_or_nat (accN b 2) (xbN b 2 * 2 ^ 2 % 256) (accN_lt b 2) (by omega)
      have HO := Lib.hid ho
      clear ho l0 l4 l5 l6 l7 l9
      go_wp2_with fail
      refine (bit_i _ _ b 2 _ rfl rfl (by omega) (by omega)).mono ?_
      rintro e w' ⟨rfl, rfl⟩
      go_wp2_with fail
      refine (bit_i _ _ b 6 _ rfl rfl (by omega) (by omega)).mono ?_
      rintro e w' ⟨rfl, rfl⟩
      go_wp2_with fail
      refine (bit_i _ _ b 7 _ rfl rfl (by omega) (by omega)).mono ?_
      rintro e w' ⟨rfl, rfl⟩
      go_wp2_with fail
      refine (bit_i _ _ b 8 _ rfl rfl (by omega) (by omega)).mono ?_
      rintro e w' ⟨rfl, rfl⟩
      go_wp2_with fail
      refine (bit_i _ _ b 9 _ rfl rfl (by omega) (by omega)).mono ?_
      rintro e w' ⟨rfl, rfl⟩
      go_wp2_with fail
      refine (bit_i _ _ 99 2 _ rfl rfl (by omega) (by omega)).mono ?_
      rintro e w' ⟨rfl, rfl⟩
      go_wp2_with fail
      go_round
      case rel =>
        refine ⟨3, by omega, rfl, congrArg (Value.int .u8) ?_⟩
        have := HO.out
        simpa [accN, xbN] using this
      case measure => simp [intOf]
    · -- round 3
      have l0 := bitN_lt b 3
      have l4 := bitN_lt b 7
      have l5 := bitN_lt b 8
      have l6 := bitN_lt b 9
      have l7 := bitN_lt b 10
      have l9 := bitN_lt 99 3
      have x1 := xor_val _ _ l0 l4
      have x2 := xor_val _ _ (x_lt l0 l4) l5
      have x3 := xor_val _ _ (x_lt (x_lt l0 l4) l5) l6
      have x4 := xor_val _ _ (x_lt (x_lt (x_lt l0 l4) l5) l6) l7
      have x5 := xor_val _ _ (x_lt (x_lt (x_lt (x_lt l0 l4) l5) l6) l7) l9
      have ho := u8_or_nat (accN b 3) (xbN b 3 * 2 ^ 3 % 256) (accN_lt b 3) (by omega)
      have HO := Lib.hid ho
      clear ho l0 l4 l5 l6 l7 l9
      go_wp2_with fail
      refine (bit_i _ _ b 3 _ rfl rfl (by omega) (by omega)).mono ?_
      rintro e w' ⟨rfl, rfl⟩
      go_wp2_with fail
      refine (bit_i _ _ b 7 _ rfl rfl (by omega) (by omega)).mono ?_
      rintro e w' ⟨rfl, rfl⟩
      go_wp2_with fail
      refine (bit_i _ _ b 8 _ rfl rfl (by omega) (by omega)).mono ?_
      rintro e w' ⟨rfl, rfl⟩
      go_wp2_with fail
      refine (bit_i _ _ b 9 _ rfl rfl (by omega) (by omega)).mono ?_
      rintro e w' ⟨rfl, rfl⟩
      go_wp2_with fail
      refine (bit_i _ _ b 10 _ rfl rfl (by omega) (by omega)).mono ?_
      rintro e w' ⟨rfl, rfl⟩
      go_wp2_with fail
      refine (bit_i _ _ 99 3 _ rfl rfl (by omega) (by omega)).mono ?_
      rintro e w' ⟨rfl, rfl⟩
      go_wp2_with fail
      go_round
      case rel =>
        refine ⟨4, by omega, rfl, congrArg (Value.int .u8) ?_⟩
        have := HO.out
        simpa [accN, xbN] using this
      case measure => simp [intOf]
    · -- round 4
      have l0 := bitN_lt b 4
      have l4 := bitN_lt b 8
      have l5 := bitN_lt b 9
      have l6 := bitN_lt b 10
      have l7 := bitN_lt b 11
      have l9 := bitN_lt 99 4
      have x1 := xor_val _ _ l0 l4
      have x2 := xor_val _ _ (x_lt l0 l4) l5
      have x3 := xor_val _ _ (x_lt (x_lt l0 l4) l5) l6
      have x4 := xor_val _ _ (x_lt (x_lt (x_lt l0 l4) l5) l6) l7
      have x5 := xor_val _ _ (x_lt (x_lt (x_lt (x_lt l0 l4) l5) l6) l7) l9
      have ho := u8_or_nat (accN b 4) (xbN b 4 * 2 ^ 4 % 256) (accN_lt b 4) (by omega)
      have HO := Lib.hid ho
      clear ho l0 l4 l5 l6 l7 l9
      go_wp2_with fail
      refine (bit_i _ _ b 4 _ rfl rfl (by omega) (by omega)).mono ?_
      rintro e w' ⟨rfl, rfl⟩
      go_wp2_with fail
      refine (bit_i _ _ b 8 _ rfl rfl (by omega) (by omega)).mono ?_
      rintro e w' ⟨rfl, rfl⟩
      go_wp2_with fail
      refine (bit_i _ _ b 9 _ rfl rfl (by omega) (by omega)).mono ?_
      rintro e w' ⟨rfl, rfl⟩
      go_wp2_with fail
      refine (bit_i _ _ b 10 _ rfl rfl (by omega) (by omega)).mono ?_
      rintro e w' ⟨rfl, rfl⟩
      go_wp2_with fail
      refine (bit_i _ _ b 11 _ rfl rfl (by omega) (by omega)).mono ?_
      rintro e w' ⟨rfl, rfl⟩
      go_wp2_with fail
      refine (bit_i _ _ 99 4 _ rfl rfl (by omega) (by omega)).mono ?_
      rintro e w' ⟨rfl, rfl⟩
      go_wp2_with fail
      go_round
      case rel =>
        refine ⟨5, by omega, rfl, congrArg (Value.int .u8) ?_⟩
        have := HO.out
        simpa [accN, xbN] using this
      case measure => simp [intOf]
    · -- round 5
      have l0 := bitN_lt b 5
      have l4 := bitN_lt b 9
      have l5 := bitN_lt b 10
      have l6 := bitN_lt b 11
      have l7 := bitN_lt b 12
      have l9 := bitN_lt 99 5
      have x1 := xor_val _ _ l0 l4
      have x2 := xor_val _ _ (x_lt l0 l4) l5
      have x3 := xor_val _ _ (x_lt (x_lt l0 l4) l5) l6
      have x4 := xor_val _ _ (x_lt (x_lt (x_lt l0 l4) l5) l6) l7
      have x5 := xor_val _ _ (x_lt (x_lt (x_lt (x_lt l0 l4) l5) l6) l7) l9
      have ho := u8_or_nat (accN b 5) (xbN b 5 * 2 ^ 5 % 256) (accN_lt b 5) (by omega)
      have HO := Lib.hid ho
      clear ho l0 l4 l5 l6 l7 l9
      go_wp2_with fail
      refine (bit_i _ _ b 5 _ rfl rfl (by omega) (by omega)).mono ?_
      rintro e w' ⟨rfl, rfl⟩
      go_wp2_with fail
      refine (bit_i _ _ b 9 _ rfl rfl (by omega) (by omega)).mono ?_
      rintro e w' ⟨rfl, rfl⟩
      go_wp2_with fail
      refine (bit_i _ _ b 10 _ rfl rfl (by omega) (by omega)).mono ?_
      rintro e w' ⟨rfl, rfl⟩
      go_wp2_with fail
      refine (bit_i _ _ b 11 _ rfl rfl (by omega) (by omega)).mono ?_
      rintro e w' ⟨rfl, rfl⟩
      go_wp2_with fail
      refine (bit_i _ _ b 12 _ rfl rfl (by omega) (by omega)).mono ?_
      rintro e w' ⟨rfl, rfl⟩
      go_wp2_with fail
      refine (bit_i _ _ 99 5 _ rfl rfl (by omega) (by omega)).mono ?_
      rintro e w' ⟨rfl, rfl⟩
      go_wp2_with fail
      go_round
      case rel =>
        refine ⟨6, by omega, rfl, congrArg (Value.int .u8) ?_⟩
        have := HO.out
        simpa [accN, xbN] using this
      case measure => simp [intOf]
    · -- round 6
      have l0 := bitN_lt b 6
      have l4 := bitN_lt b 10
      have l5 := bitN_lt b 11
      have l6 := bitN_lt b 12
      have l7 := bitN_lt b 13
      have l9 := bitN_lt 99 6
      have x1 := xor_val _ _ l0 l4
      have x2 := xor_val _ _ (x_lt l0 l4) l5
      have x3 := xor_val _ _ (x_lt (x_lt l0 l4) l5) l6
      have x4 := xor_val _ _ (x_lt (x_lt (x_lt l0 l4) l5) l6) l7
      have x5 := xor_val _ _ (x_lt (x_lt (x_lt (x_lt l0 l4) l5) l6) l7) l9
      have ho := u8_or_nat (accN b 6) (xbN b 6 * 2 ^ 6 % 256) (accN_lt b 6) (by omega)
      have HO := Lib.hid ho
      clear ho l0 l4 l5 l6 l7 l9
      go_wp2_with fail
      refine (bit_i _ _ b 6 _ rfl rfl (by omega) (by omega)).mono ?_
      rintro e w' ⟨rfl, rfl⟩
      go_wp2_with fail
      refine (bit_i _ _ b 10 _ rfl rfl (by omega) (by omega)).mono ?_
      rintro e w' ⟨rfl, rfl⟩
      go_wp2_with fail
      refine (bit_i _ _ b 11 _ rfl rfl (by omega) (by omega)).mono ?_
      rintro e w' ⟨rfl, rfl⟩
      go_wp2_with fail
      refine (bit_i _ _ b 12 _ rfl rfl (by omega) (by omega)).mono ?_
      rintro e w' ⟨rfl, rfl⟩
      go_wp2_with fail
      refine (bit_i _ _ b 13 _ rfl rfl (by omega) (by omega)).mono ?_
      rintro e w' ⟨rfl, rfl⟩
      go_wp2_with fail
      refine (bit_i _ _ 99 6 _ rfl rfl (by omega) (by omega)).mono ?_
      rintro e w' ⟨rfl, rfl⟩
      go_wp2_with fail
      go_round
      case rel =>
        refine ⟨7, by omega, rfl, congrArg (Value.int .u8) ?_⟩
        have := HO.out
        simpa [accN, xbN] using this
      case measure => simp [intOf]
    · -- round 7
      have l0 := bitN_lt b 7
      have l4 := bitN_lt b 11
      have l5 := bitN_lt b 12
      have l6 := bitN_lt b 13
      have l7 := bitN_lt b 14
      have l9 := bitN_lt 99 7
      have x1 := xor_val _ _ l0 l4
      have x2 := xor_val _ _ (x_lt l0 l4) l5
      have x3 := xor_val _ _ (x_lt (x_lt l0 l4) l5) l6
      have x4 := xor_val _ _ (x_lt (x_lt (x_lt l0 l4) l5) l6) l7
      have x5 := xor_val _ _ (x_lt (x_lt (x_lt (x_lt l0 l4) l5) l6) l7) l9
      have ho := u8_or_nat (accN b 7) (xbN b 7 * 2 ^ 7 % 256) (accN_lt b 7) (by omega)
      have HO := Lib.hid ho
      clear ho l0 l4 l5 l6 l7 l9
      go_wp2_with fail
      refine (bit_i _ _ b 7 _ rfl rfl (by omega) (by omega)).mono ?_
      rintro e w' ⟨rfl, rfl⟩
      go_wp2_with fail
      refine (bit_i _ _ b 11 _ rfl rfl (by omega) (by omega)).mono ?_
      rintro e w' ⟨rfl, rfl⟩
      go_wp2_with fail
      refine (bit_i _ _ b 12 _ rfl rfl (by omega) (by omega)).mono ?_
      rintro e w' ⟨rfl, rfl⟩
      go_wp2_with fail
      refine (bit_i _ _ b 13 _ rfl rfl (by omega) (by omega)).mono ?_
      rintro e w' ⟨rfl, rfl⟩
      go_wp2_with fail
      refine (bit_i _ _ b 14 _ rfl rfl (by omega) (by omega)).mono ?_
      rintro e w' ⟨rfl, rfl⟩
      go_wp2_with fail
      refine (bit_i _ _ 99 7 _ rfl rfl (by omega) (by omega)).mono ?_
      rintro e w' ⟨rfl, rfl⟩
      go_wp2_with fail
      go_round
      case rel =>
        refine ⟨8, by omega, rfl, congrArg (Value.int .u8) ?_⟩
        have := HO.out
        simpa [accN, xbN] using this
      case measure => simp [intOf]
    · go_wp2_with fail
      go_ret
      exact ⟨rfl, rfl⟩

set_option maxRecDepth 100000 in
set_option maxHeartbeats 1000000 in
theorem refUnsub_i (x : Int) (a : UInt8) (w : World) (hx : (a.toNat : Int) = x) :
    Calls Try.prog 21 #[.int .u8 x] w fun e w' => e = .returned (.int .u8 ((aunsub a).toNat : Nat)) ∧ w = w' := by
  subst hx
  go_enter Try.func21, Try.ntmps21
  go_wp2_with fail
  go_loop [3] (fun vi => ∃ k : Nat, k ≤ (aunsub a).toNat ∧ vi = .int .i64 k) (fun vi => 256 - (intOf vi).toNat)
  case atStart => exact ⟨0, by omega, rfl⟩
  case round =>
    obtain ⟨k, hk, rfl⟩ := hrel
    have hl := (aunsub a).toNat_lt
    have hk2 : k < 256 := by omega
    have hc := fun w => refSub_i (k : Int) (UInt8.ofNat k) w (by rw [ofNat_u8 hk2])
    have HC := Lib.hid hc
    clear hc
    have hq := u8_beq (asub (UInt8.ofNat k)) a
    by_cases he : asub (UInt8.ofNat k) = a
    · rw [decide_eq_true he] at hq
      have hv : (aunsub a).toNat = k := by rw [← he, un_sub, ofNat_u8 hk2]
      clear he
      have HV := Lib.hid hv
      clear hv hk hl
      go_wp2_with fail
      refine (HC.out _).mono ?_
      rintro e w' ⟨rfl, rfl⟩
      go_wp2_with fail
      go_ret
      exact ⟨by rw [HV.out]; rfl, rfl⟩
    · rw [decide_eq_false he] at hq
      have hne : k ≠ (aunsub a).toNat := by
        rintro rfl
        rw [UInt8.ofNat_toNat, sub_un] at he
        exact he rfl
      clear he
      go_wp2_with fail
      refine (HC.out _).mono ?_
      rintro e w' ⟨rfl, rfl⟩
      go_wp2_with fail
      go_round
      case rel => exact ⟨k + 1, by omega, by go_num⟩
      case measure => simp [intOf]; omega

end Go.Proofs.Ytlnmglddialhjaa
