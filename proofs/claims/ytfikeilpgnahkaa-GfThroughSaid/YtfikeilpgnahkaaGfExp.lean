/- Powers, in plain Lean. -/
import Derived.Test.YtfikeilpgnahkaaGfLog
import Derived.Test.YtfikeilpgnahkaaGfAlg
namespace Go.Proofs.Ytfikeilpgnahkaa

theorem gexp_add (i j : Nat) : gexp (i + j) = gm (gexp i) (gexp j) := by
  induction j with
  | zero => exact (gm_one _).symm
  | succ j ih => rw [← Nat.add_assoc, gexp, gexp, ih, gm_assoc]
theorem gexp_mod (n : Nat) : gexp (n % 255) = gexp n := by
  have h : ∀ q r, gexp (255 * q + r) = gexp r := by
    intro q
    induction q with
    | zero => intro r; simp
    | succ q ih =>
      intro r
      rw [show 255 * (q + 1) + r = 255 + (255 * q + r) from by omega, gexp_add, gexp_255, gm_one_left, ih]
  have := h (n / 255) (n % 255)
  rw [Nat.div_add_mod] at this
  exact this.symm
/-- so many times itself -/
def gpow (a : UInt8) : Nat → UInt8
  | 0 => 1
  | n + 1 => gm (gpow a n) a
theorem gpow_gexp (l m : Nat) : gpow (gexp l) m = gexp (l * m) := by
  induction m with
  | zero => rfl
  | succ m ih => rw [gpow, ih, Nat.mul_succ, gexp_add]
theorem gpow_two (m : Nat) : gpow 2 m = gexp m := by
  induction m with
  | zero => rfl
  | succ m ih => rw [gpow, ih, gexp]

end Go.Proofs.Ytfikeilpgnahkaa
