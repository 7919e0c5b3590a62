/- aes: the laws of the field, out of bilinearity and a basis: in plain Lean. -/
import Derived.Test.YtlnmglddialhjaaAesSub
namespace Go.Proofs.Ytlnmglddialhjaa

def Additive (f : UInt8 → UInt8) : Prop := ∀ x y, f (x ^^^ y) = f x ^^^ f y
theorem Additive.zero {f : UInt8 → UInt8} (h : Additive f) : f 0 = 0 := by
  have := h 0 0
  simpa using this
def part (a : UInt8) (k : Nat) : UInt8 := if a.toNat.testBit k then UInt8.ofNat (2 ^ k) else 0
theorem parts (a : UInt8) : a = part a 0 ^^^ part a 1 ^^^ part a 2 ^^^ part a 3 ^^^ part a 4 ^^^ part a 5 ^^^ part a 6 ^^^ part a 7 := by
  have h : ((List.range 256).all fun n => (UInt8.ofNat n == part (UInt8.ofNat n) 0 ^^^ part (UInt8.ofNat n) 1 ^^^ part (UInt8.ofNat n) 2 ^^^ part (UInt8.ofNat n) 3 ^^^ part (UInt8.ofNat n) 4 ^^^ part (UInt8.ofNat n) 5 ^^^ part (UInt8.ofNat n) 6 ^^^ part (UInt8.ofNat n) 7)) = true := by decide +kernel
  simpa using all256 (p := fun a => (a == part a 0 ^^^ part a 1 ^^^ part a 2 ^^^ part a 3 ^^^ part a 4 ^^^ part a 5 ^^^ part a 6 ^^^ part a 7)) h a
/-- two additive functions that agree on a basis agree -/
theorem Additive.ext {f g : UInt8 → UInt8} (hf : Additive f) (hg : Additive g) (h : ∀ k, k < 8 → f (UInt8.ofNat (2 ^ k)) = g (UInt8.ofNat (2 ^ k))) (a : UInt8) : f a = g a := by
  have hp : ∀ k, k < 8 → f (part a k) = g (part a k) := by
    intro k hk
    unfold part
    split
    · exact h k hk
    · rw [hf.zero, hg.zero]
  rw [parts a]
  simp only [hf _ _, hg _ _]
  rw [hp 0 (by omega), hp 1 (by omega), hp 2 (by omega), hp 3 (by omega), hp 4 (by omega), hp 5 (by omega), hp 6 (by omega), hp 7 (by omega)]

/-- times the generator, of a byte -/
def ax8 (a : UInt8) : UInt8 := UInt8.ofNat (ax a.toNat)
theorem ax8_toNat (a : UInt8) : (ax8 a).toNat = ax a.toNat := by
  unfold ax8
  rw [UInt8.toNat_ofNat', Nat.mod_eq_of_lt (ax_lt a.toNat_lt)]
theorem xor_lc (a b c : Nat) : a ^^^ (b ^^^ c) = b ^^^ (a ^^^ c) := by rw [← Nat.xor_assoc, Nat.xor_comm a b, Nat.xor_assoc]
theorem ax_xor (a b : Nat) (ha : a < 256) (hb : b < 256) : ax (a ^^^ b) = ax a ^^^ ax b := by
  have e : ∀ a < 256, ax a = (a <<< 1) ^^^ (if a < 128 then 0 else 283) := by decide +kernel
  have hl : a ^^^ b < 256 := Nat.xor_lt_two_pow (n := 8) ha hb
  have t : ∀ c < 256, (c < 128) = (c.testBit 7 = false) := by
    intro c hc
    have : ∀ c < 256, (decide (c < 128)) = !(c.testBit 7) := by decide +kernel
    have h2 := this c hc
    clear this
    apply propext
    cases h : c.testBit 7 <;> rw [h] at h2 <;> simp at h2 ⊢ <;> omega
  rw [e _ hl, e a ha, e b hb, Nat.shiftLeft_xor_distrib]
  simp only [t _ hl, t a ha, t b hb, Nat.testBit_xor]
  cases a.testBit 7 <;> cases b.testBit 7 <;> simp [Nat.xor_assoc, Nat.xor_comm 283, xor_lc 283]

theorem amL_acc : ∀ (n p a b : Nat), amL n p a b = p ^^^ amL n 0 a b := by
  intro n
  induction n with
  | zero => intro p a b; simp [amL]
  | succ n ih =>
    intro p a b
    simp only [amL]
    rw [ih (if b % 2 = 1 then p ^^^ a else p), ih (if b % 2 = 1 then 0 ^^^ a else 0)]
    split <;> simp [Nat.xor_assoc]
theorem amL_left : ∀ (n a a' b : Nat), a < 256 → a' < 256 → amL n 0 (a ^^^ a') b = amL n 0 a b ^^^ amL n 0 a' b := by
  intro n
  induction n with
  | zero => intro a a' b _ _; simp [amL]
  | succ n ih =>
    intro a a' b ha ha'
    simp only [amL]
    rw [amL_acc, amL_acc n (if b % 2 = 1 then 0 ^^^ a else 0), amL_acc n (if b % 2 = 1 then 0 ^^^ a' else 0), ax_xor a a' ha ha', ih _ _ _ (ax_lt ha) (ax_lt ha')]
    split
    · simp only [Nat.zero_xor]
      rw [Nat.xor_assoc, Nat.xor_assoc, xor_lc a' _ _]
    · simp
theorem amL_right : ∀ (n a b b' : Nat), amL n 0 a (b ^^^ b') = amL n 0 a b ^^^ amL n 0 a b' := by
  intro n
  induction n with
  | zero => intro a b b'; simp [amL]
  | succ n ih =>
    intro a b b'
    simp only [amL]
    rw [amL_acc, amL_acc n (if b % 2 = 1 then 0 ^^^ a else 0), amL_acc n (if b' % 2 = 1 then 0 ^^^ a else 0), Nat.xor_div_two, ih]
    have hx : ((b ^^^ b') % 2 = 1) = ¬ ((b % 2 = 1) ↔ (b' % 2 = 1)) := propext Nat.xor_mod_two_eq_one
    by_cases h1 : b % 2 = 1 <;> by_cases h2 : b' % 2 = 1
    · rw [if_neg (by rw [hx]; simp [h1, h2]), if_pos h1, if_pos h2]
      simp only [Nat.zero_xor]
      rw [Nat.xor_assoc, xor_lc (amL n 0 (ax a) (b / 2)), ← Nat.xor_assoc a a, Nat.xor_self, Nat.zero_xor]
    · rw [if_pos (by rw [hx]; simp [h1, h2]), if_pos h1, if_neg h2]
      simp [Nat.xor_assoc]
    · rw [if_pos (by rw [hx]; simp [h1, h2]), if_neg h1, if_pos h2]
      simp only [Nat.zero_xor]
      rw [xor_lc]
    · rw [if_neg (by rw [hx]; simp [h1, h2]), if_neg h1, if_neg h2]
      simp

theorem am_left (c : UInt8) : Additive (fun a => am a c) := by
  intro x y
  apply UInt8.toNat_inj.1
  rw [UInt8.toNat_xor, am_toNat, am_toNat, am_toNat, UInt8.toNat_xor]
  exact amL_left 8 _ _ _ x.toNat_lt y.toNat_lt
theorem am_right (a : UInt8) : Additive (fun c => am a c) := by
  intro x y
  apply UInt8.toNat_inj.1
  rw [UInt8.toNat_xor, am_toNat, am_toNat, am_toNat, UInt8.toNat_xor]
  exact amL_right 8 _ _ _
theorem am_add_left (a b c : UInt8) : am (a ^^^ b) c = am a c ^^^ am b c := am_left c a b
theorem am_add_right (a b c : UInt8) : am a (b ^^^ c) = am a b ^^^ am a c := am_right a b c

theorem comm_basis : ((List.range 8).all fun i => (List.range 8).all fun j => am (UInt8.ofNat (2 ^ i)) (UInt8.ofNat (2 ^ j)) == am (UInt8.ofNat (2 ^ j)) (UInt8.ofNat (2 ^ i))) = true := by decide +kernel
theorem am_comm (a b : UInt8) : am a b = am b a := by
  refine Additive.ext (f := fun b => am a b) (g := fun b => am b a) (am_right a) (am_left a) (fun j hj => ?_) b
  refine Additive.ext (f := fun a => am a _) (g := fun a => am _ a) (am_left _) (am_right _) (fun i hi => ?_) a
  have h1 := List.all_eq_true.1 comm_basis i (List.mem_range.2 hi)
  have h2 := List.all_eq_true.1 h1 j (List.mem_range.2 hj)
  exact beq_iff_eq.1 h2

theorem assoc_basis : ((List.range 8).all fun i => (List.range 8).all fun j => (List.range 8).all fun k => am (UInt8.ofNat (2 ^ i)) (am (UInt8.ofNat (2 ^ j)) (UInt8.ofNat (2 ^ k))) == am (am (UInt8.ofNat (2 ^ i)) (UInt8.ofNat (2 ^ j))) (UInt8.ofNat (2 ^ k))) = true := by decide +kernel
theorem Additive.comp {f g : UInt8 → UInt8} (hf : Additive f) (hg : Additive g) : Additive (fun x => f (g x)) := by
  intro x y
  show f (g (x ^^^ y)) = f (g x) ^^^ f (g y)
  rw [hg, hf]
theorem am_assoc (a b c : UInt8) : am a (am b c) = am (am a b) c := by
  refine Additive.ext (f := fun c => am a (am b c)) (g := fun c => am (am a b) c) ((am_right a).comp (am_right b)) (am_right _) (fun k hk => ?_) c
  refine Additive.ext (f := fun b => am a (am b _)) (g := fun b => am (am a b) _) ((am_right a).comp (am_left _)) ((am_left _).comp (am_right a)) (fun j hj => ?_) b
  refine Additive.ext (f := fun a => am a (am _ _)) (g := fun a => am (am a _) _) (am_left _) ((am_left _).comp (am_left _)) (fun i hi => ?_) a
  have h1 := List.all_eq_true.1 assoc_basis i (List.mem_range.2 hi)
  have h2 := List.all_eq_true.1 h1 j (List.mem_range.2 hj)
  have h3 := List.all_eq_true.1 h2 k (List.mem_range.2 hk)
  exact beq_iff_eq.1 h3
theorem am_one (a : UInt8) : am a 1 = a := by
  have h : ((List.range 256).all fun n => am (UInt8.ofNat n) 1 == UInt8.ofNat n) = true := by decide +kernel
  simpa using all256 (p := fun a => am a 1 == a) h a
theorem am_one_left (a : UInt8) : am 1 a = a := by rw [am_comm, am_one]
theorem am_zero_left (a : UInt8) : am 0 a = 0 := by rw [am_comm, am_zero_right]
theorem am_inv_all : ((List.range 256).all fun n => n == 0 || am (UInt8.ofNat n) (ainv (UInt8.ofNat n)) == 1) = true := by decide +kernel
theorem am_inv {a : UInt8} (h : a ≠ 0) : am a (ainv a) = 1 := by
  have h1 := List.all_eq_true.1 am_inv_all a.toNat (List.mem_range.2 a.toNat_lt)
  simp only [UInt8.ofNat_toNat, Bool.or_eq_true, beq_iff_eq] at h1
  rcases h1 with h1 | h1
  · exact absurd (UInt8.toNat_inj.1 h1) h
  · exact h1
theorem am_eq_zero {a b : UInt8} : am a b = 0 ↔ a = 0 ∨ b = 0 := by
  constructor
  · intro h
    by_cases ha : a = 0
    · exact .inl ha
    · right
      have h1 : am (ainv a) (am a b) = 0 := by rw [h, am_zero_right]
      rw [am_assoc, am_comm (ainv a) a, am_inv ha, am_one_left] at h1
      exact h1
  · rintro (rfl | rfl)
    · exact am_zero_left b
    · exact am_zero_right a
theorem ainv_ne {a : UInt8} (h : a ≠ 0) : ainv a ≠ 0 := by
  intro e
  have := am_inv h
  rw [e, am_zero_right] at this
  exact absurd this (by decide)

end Go.Proofs.Ytlnmglddialhjaa
