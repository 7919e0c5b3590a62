/- The cipher's field, in plain Lean: no program in sight. -/
import Derived.Test.YtlnmglddialhjaaBase
namespace Go.Proofs.Ytlnmglddialhjaa

/-- times the generator -/
def ax (a : Nat) : Nat := if a < 128 then a * 2 else (a * 2 - 256) ^^^ 27
/-- so many rounds of the product -/
def amL : Nat → Nat → Nat → Nat → Nat
  | 0, p, _, _ => p
  | n + 1, p, a, b => amL n (if b % 2 = 1 then p ^^^ a else p) (ax a) (b / 2)
def amN (a b : Nat) : Nat := amL 8 0 a b

theorem ax_lt {a : Nat} (h : a < 256) : ax a < 256 := by
  unfold ax
  split
  · omega
  · exact Nat.xor_lt_two_pow (n := 8) (by omega) (by omega)
theorem amL_zero : ∀ (n p a : Nat), amL n p a 0 = p := by
  intro n
  induction n with
  | zero => intro p a; rfl
  | succ n ih => intro p a; simp only [amL]; rw [ih]; simp
theorem amL_lt : ∀ (n p a b : Nat), p < 256 → a < 256 → amL n p a b < 256 := by
  intro n
  induction n with
  | zero => intro p a b hp _; exact hp
  | succ n ih =>
    intro p a b hp ha
    refine ih _ _ _ ?_ (ax_lt ha)
    split
    · exact Nat.xor_lt_two_pow (n := 8) hp ha
    · exact hp
theorem amN_lt {a b : Nat} (ha : a < 256) : amN a b < 256 := amL_lt 8 0 a b (by omega) ha

/-- the product -/
def am (a b : UInt8) : UInt8 := UInt8.ofNat (amN a.toNat b.toNat)
theorem am_toNat (a b : UInt8) : (am a b).toNat = amN a.toNat b.toNat := by
  unfold am
  rw [UInt8.toNat_ofNat', Nat.mod_eq_of_lt (by have := amN_lt (a := a.toNat) (b := b.toNat) a.toNat_lt; omega)]

/-- to the power 254 -/
def ainvL : Nat → UInt8 → UInt8 → UInt8
  | 0, p, _ => p
  | n + 1, p, a => ainvL n (am p (am a a)) (am a a)
def ainv (a : UInt8) : UInt8 := ainvL 7 1 a
theorem ainv_zero : ainv 0 = 0 := by decide +kernel
theorem am_zero_right (a : UInt8) : am a 0 = 0 := by
  unfold am amN
  rw [show (0 : UInt8).toNat = 0 from rfl, amL_zero]
  rfl
end Go.Proofs.Ytlnmglddialhjaa
