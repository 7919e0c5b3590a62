/- The field of 256 elements, in plain Lean: no program in sight. -/
import Derived.Test.YtfikeilpgnahkaaBase
namespace Go.Proofs.Ytfikeilpgnahkaa

/-- times the generator -/
def xt (a : Nat) : Nat := if a < 128 then a * 2 else (a * 2 - 256) ^^^ 29
/-- so many rounds of the product -/
def mulL : Nat → Nat → Nat → Nat → Nat
  | 0, p, _, _ => p
  | n + 1, p, a, b => mulL n (if b % 2 = 1 then p ^^^ a else p) (xt a) (b / 2)
def gmN (a b : Nat) : Nat := mulL 8 0 a b

theorem xt_lt {a : Nat} (h : a < 256) : xt a < 256 := by
  unfold xt
  split
  · omega
  · exact Nat.xor_lt_two_pow (n := 8) (by omega) (by omega)
theorem mulL_zero : ∀ (n p a : Nat), mulL n p a 0 = p := by
  intro n
  induction n with
  | zero => intro p a; rfl
  | succ n ih => intro p a; simp only [mulL]; rw [ih]; simp
theorem mulL_lt : ∀ (n p a b : Nat), p < 256 → a < 256 → mulL n p a b < 256 := by
  intro n
  induction n with
  | zero => intro p a b hp _; exact hp
  | succ n ih =>
    intro p a b hp ha
    refine ih _ _ _ ?_ (xt_lt ha)
    split
    · exact Nat.xor_lt_two_pow (n := 8) hp ha
    · exact hp
theorem gmN_lt {a b : Nat} (ha : a < 256) : gmN a b < 256 := mulL_lt 8 0 a b (by omega) ha

/-- the product -/
def gm (a b : UInt8) : UInt8 := UInt8.ofNat (gmN a.toNat b.toNat)
theorem gm_toNat (a b : UInt8) : (gm a b).toNat = gmN a.toNat b.toNat := by
  unfold gm
  rw [UInt8.toNat_ofNat', Nat.mod_eq_of_lt (by have := gmN_lt (a := a.toNat) (b := b.toNat) a.toNat_lt; omega)]

/-- to the power 254 -/
def invL : Nat → UInt8 → UInt8 → UInt8
  | 0, p, _ => p
  | n + 1, p, a => invL n (gm p (gm a a)) (gm a a)
def ginv (a : UInt8) : UInt8 := invL 7 1 a
theorem ginv_zero : ginv 0 = 0 := by decide +kernel
/-- the number of the error where nothing is divided by -/
def noughtE (a : UInt8) : Nat := if a = 0 then 60 else 0

theorem gm_zero_right (a : UInt8) : gm a 0 = 0 := by
  unfold gm gmN
  rw [show (0 : UInt8).toNat = 0 from rfl, mulL_zero]
  rfl
theorem noughtE_ne {a : UInt8} (h : a ≠ 0) : noughtE a = 0 := by simp [noughtE, h]
theorem noughtE_zero : noughtE 0 = 60 := rfl

/-- the generator's powers -/
def gexp : Nat → UInt8
  | 0 => 1
  | n + 1 => gm (gexp n) 2
/-- their table -/
def powL (n : Nat) : List Value := (List.range n).map fun i => bval (gexp i)
def powT : Array Value := (powL 255).toArray
theorem powL_length (n : Nat) : (powL n).length = n := by simp [powL]
theorem powL_succ (n : Nat) : powL (n + 1) = powL n ++ [bval (gexp n)] := by simp [powL, List.range_succ]
theorem powT_size : powT.size = 255 := by simp [powT, powL_length]
theorem powT_one : powT.all (·.oneCell') = true := by
  rw [Array.all_eq_true_iff_forall_mem]
  intro v hv
  simp only [powT, powL, List.mem_toArray, List.mem_map] at hv
  obtain ⟨i, _, rfl⟩ := hv
  rfl
theorem powT_get (i : Nat) (h : i < 255) : powT[i]? = some (.int .u8 ((gexp i).toNat : Int)) := by
  simp [powT, powL, List.getElem?_range h, bval]

end Go.Proofs.Ytfikeilpgnahkaa
