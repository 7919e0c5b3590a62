/- The laws of the field of 256 elements, out of bilinearity and a basis: in plain Lean. -/
import Derived.Test.YtfikeilpgnahkaaGfMath
namespace Go.Proofs.Ytfikeilpgnahkaa

def Additive (f : UInt8 → UInt8) : Prop := ∀ x y, f (x ^^^ y) = f x ^^^ f y
theorem Additive.zero {f : UInt8 → UInt8} (h : Additive f) : f 0 = 0 := by
  have := h 0 0
  simpa using this
theorem all256 {p : UInt8 → Bool} (h : ((List.range 256).all fun n => p (UInt8.ofNat n)) = true) (a : UInt8) : p a = true := by
  have := List.all_eq_true.1 h a.toNat (List.mem_range.2 a.toNat_lt)
  simpa using this
def part (a : UInt8) (k : Nat) : UInt8 := if a.toNat.testBit k then UInt8.ofNat (2 ^ k) else 0
theorem parts (a : UInt8) : a = part a 0 ^^^ part a 1 ^^^ part a 2 ^^^ part a 3 ^^^ part a 4 ^^^ part a 5 ^^^ part a 6 ^^^ part a 7 := by
  have h : ((List.range 256).all fun n => (UInt8.ofNat n == part (UInt8.ofNat n) 0 ^^^ part (UInt8.ofNat n) 1 ^^^ part (UInt8.ofNat n) 2 ^^^ part (UInt8.ofNat n) 3 ^^^ part (UInt8.ofNat n) 4 ^^^ part (UInt8.ofNat n) 5 ^^^ part (UInt8.ofNat n) 6 ^^^ part (UInt8.ofNat n) 7)) = true := by decide +kernel
  simpa using all256 (p := fun a => (a == part a 0 ^^^ part a 1 ^^^ part a 2 ^^^ part a 3 ^^^ part a 4 ^^^ part a 5 ^^^ part a 6 ^^^ part a 7)) h a
/-- two additive functions that agree on a basis agree -/
theorem Additive.ext {f g : UInt8 → UInt8} (hf : Additive f) (hg : Additive g) (h : ∀ k, k < 8 → f (UInt8.ofNat (2 ^ k)) = g (UInt8.ofNat (2 ^ k))) (a : UInt8) : f a = g a := by
  have hp : ∀ k, k < 8 → f (part a k) = g (part a k) := by
    intro k hk
    unfold part
    split
    · exact h k hk
    · rw [hf.zero, hg.zero]
  rw [parts a]
  simp only [hf _ _, hg _ _]
  rw [hp 0 (by omega), hp 1 (by omega), hp 2 (by omega), hp 3 (by omega), hp 4 (by omega), hp 5 (by omega), hp 6 (by omega), hp 7 (by omega)]

/-- times the generator, of a byte -/
def xt8 (a : UInt8) : UInt8 := UInt8.ofNat (xt a.toNat)
theorem xt8_toNat (a : UInt8) : (xt8 a).toNat = xt a.toNat := by
  unfold xt8
  rw [UInt8.toNat_ofNat', Nat.mod_eq_of_lt (xt_lt a.toNat_lt)]
theorem xor_lc (a b c : Nat) : a ^^^ (b ^^^ c) = b ^^^ (a ^^^ c) := by rw [← Nat.xor_assoc, Nat.xor_comm a b, Nat.xor_assoc]
theorem xt_xor (a b : Nat) (ha : a < 256) (hb : b < 256) : xt (a ^^^ b) = xt a ^^^ xt b := by
  have e : ∀ a < 256, xt a = (a <<< 1) ^^^ (if a < 128 then 0 else 285) := by decide +kernel
  have hl : a ^^^ b < 256 := Nat.xor_lt_two_pow (n := 8) ha hb
  have t : ∀ c < 256, (c < 128) = (c.testBit 7 = false) := by
    intro c hc
    have : ∀ c < 256, (decide (c < 128)) = !(c.testBit 7) := by decide +kernel
    have h2 := this c hc
    clear this
    apply propext
    cases h : c.testBit 7 <;> rw [h] at h2 <;> simp at h2 ⊢ <;> omega
  rw [e _ hl, e a ha, e b hb, Nat.shiftLeft_xor_distrib]
  simp only [t _ hl, t a ha, t b hb, Nat.testBit_xor]
  cases a.testBit 7 <;> cases b.testBit 7 <;> simp [Nat.xor_assoc, Nat.xor_comm 285, xor_lc 285]

theorem mulL_acc : ∀ (n p a b : Nat), mulL n p a b = p ^^^ mulL n 0 a b := by
  intro n
  induction n with
  | zero => intro p a b; simp [mulL]
  | succ n ih =>
    intro p a b
    simp only [mulL]
    rw [ih (if b % 2 = 1 then p ^^^ a else p), ih (if b % 2 = 1 then 0 ^^^ a else 0)]
    split <;> simp [Nat.xor_assoc]
theorem mulL_left : ∀ (n a a' b : Nat), a < 256 → a' < 256 → mulL n 0 (a ^^^ a') b = mulL n 0 a b ^^^ mulL n 0 a' b := by
  intro n
  induction n with
  | zero => intro a a' b _ _; simp [mulL]
  | succ n ih =>
    intro a a' b ha ha'
    simp only [mulL]
    rw [mulL_acc, mulL_acc n (if b % 2 = 1 then 0 ^^^ a else 0), mulL_acc n (if b % 2 = 1 then 0 ^^^ a' else 0), xt_xor a a' ha ha', ih _ _ _ (xt_lt ha) (xt_lt ha')]
    split
    · simp only [Nat.zero_xor]
      rw [Nat.xor_assoc, Nat.xor_assoc, xor_lc a' _ _]
    · simp
theorem mulL_right : ∀ (n a b b' : Nat), mulL n 0 a (b ^^^ b') = mulL n 0 a b ^^^ mulL n 0 a b' := by
  intro n
  induction n with
  | zero => intro a b b'; simp [mulL]
  | succ n ih =>
    intro a b b'
    simp only [mulL]
    rw [mulL_acc, mulL_acc n (if b % 2 = 1 then 0 ^^^ a else 0), mulL_acc n (if b' % 2 = 1 then 0 ^^^ a else 0), Nat.xor_div_two, ih]
    have hx : ((b ^^^ b') % 2 = 1) = ¬ ((b % 2 = 1) ↔ (b' % 2 = 1)) := propext Nat.xor_mod_two_eq_one
    by_cases h1 : b % 2 = 1 <;> by_cases h2 : b' % 2 = 1
    · rw [if_neg (by rw [hx]; simp [h1, h2]), if_pos h1, if_pos h2]
      simp only [Nat.zero_xor]
      rw [Nat.xor_assoc, xor_lc (mulL n 0 (xt a) (b / 2)), ← Nat.xor_assoc a a, Nat.xor_self, Nat.zero_xor]
    · rw [if_pos (by rw [hx]; simp [h1, h2]), if_pos h1, if_neg h2]
      simp [Nat.xor_assoc]
    · rw [if_pos (by rw [hx]; simp [h1, h2]), if_neg h1, if_pos h2]
      simp only [Nat.zero_xor]
      rw [xor_lc]
    · rw [if_neg (by rw [hx]; simp [h1, h2]), if_neg h1, if_neg h2]
      simp

theorem gm_left (c : UInt8) : Additive (fun a => gm a c) := by
  intro x y
  apply UInt8.toNat_inj.1
  rw [UInt8.toNat_xor, gm_toNat, gm_toNat, gm_toNat, UInt8.toNat_xor]
  exact mulL_left 8 _ _ _ x.toNat_lt y.toNat_lt
theorem gm_right (a : UInt8) : Additive (fun c => gm a c) := by
  intro x y
  apply UInt8.toNat_inj.1
  rw [UInt8.toNat_xor, gm_toNat, gm_toNat, gm_toNat, UInt8.toNat_xor]
  exact mulL_right 8 _ _ _
theorem gm_add_left (a b c : UInt8) : gm (a ^^^ b) c = gm a c ^^^ gm b c := gm_left c a b
theorem gm_add_right (a b c : UInt8) : gm a (b ^^^ c) = gm a b ^^^ gm a c := gm_right a b c

theorem comm_basis : ((List.range 8).all fun i => (List.range 8).all fun j => gm (UInt8.ofNat (2 ^ i)) (UInt8.ofNat (2 ^ j)) == gm (UInt8.ofNat (2 ^ j)) (UInt8.ofNat (2 ^ i))) = true := by decide +kernel
theorem gm_comm (a b : UInt8) : gm a b = gm b a := by
  refine Additive.ext (f := fun b => gm a b) (g := fun b => gm b a) (gm_right a) (gm_left a) (fun j hj => ?_) b
  refine Additive.ext (f := fun a => gm a _) (g := fun a => gm _ a) (gm_left _) (gm_right _) (fun i hi => ?_) a
  have h1 := List.all_eq_true.1 comm_basis i (List.mem_range.2 hi)
  have h2 := List.all_eq_true.1 h1 j (List.mem_range.2 hj)
  exact beq_iff_eq.1 h2

theorem assoc_basis : ((List.range 8).all fun i => (List.range 8).all fun j => (List.range 8).all fun k => gm (UInt8.ofNat (2 ^ i)) (gm (UInt8.ofNat (2 ^ j)) (UInt8.ofNat (2 ^ k))) == gm (gm (UInt8.ofNat (2 ^ i)) (UInt8.ofNat (2 ^ j))) (UInt8.ofNat (2 ^ k))) = true := by decide +kernel
theorem Additive.comp {f g : UInt8 → UInt8} (hf : Additive f) (hg : Additive g) : Additive (fun x => f (g x)) := by
  intro x y
  show f (g (x ^^^ y)) = f (g x) ^^^ f (g y)
  rw [hg, hf]
theorem gm_assoc (a b c : UInt8) : gm a (gm b c) = gm (gm a b) c := by
  refine Additive.ext (f := fun c => gm a (gm b c)) (g := fun c => gm (gm a b) c) ((gm_right a).comp (gm_right b)) (gm_right _) (fun k hk => ?_) c
  refine Additive.ext (f := fun b => gm a (gm b _)) (g := fun b => gm (gm a b) _) ((gm_right a).comp (gm_left _)) ((gm_left _).comp (gm_right a)) (fun j hj => ?_) b
  refine Additive.ext (f := fun a => gm a (gm _ _)) (g := fun a => gm (gm a _) _) (gm_left _) ((gm_left _).comp (gm_left _)) (fun i hi => ?_) a
  have h1 := List.all_eq_true.1 assoc_basis i (List.mem_range.2 hi)
  have h2 := List.all_eq_true.1 h1 j (List.mem_range.2 hj)
  have h3 := List.all_eq_true.1 h2 k (List.mem_range.2 hk)
  exact beq_iff_eq.1 h3
theorem gm_one (a : UInt8) : gm a 1 = a := by
  have h : ((List.range 256).all fun n => gm (UInt8.ofNat n) 1 == UInt8.ofNat n) = true := by decide +kernel
  simpa using all256 (p := fun a => gm a 1 == a) h a
theorem gm_one_left (a : UInt8) : gm 1 a = a := by rw [gm_comm, gm_one]
theorem gm_zero_left (a : UInt8) : gm 0 a = 0 := by rw [gm_comm, gm_zero_right]
theorem gm_inv_all : ((List.range 256).all fun n => n == 0 || gm (UInt8.ofNat n) (ginv (UInt8.ofNat n)) == 1) = true := by decide +kernel
theorem gm_inv {a : UInt8} (h : a ≠ 0) : gm a (ginv a) = 1 := by
  have h1 := List.all_eq_true.1 gm_inv_all a.toNat (List.mem_range.2 a.toNat_lt)
  simp only [UInt8.ofNat_toNat, Bool.or_eq_true, beq_iff_eq] at h1
  rcases h1 with h1 | h1
  · exact absurd (UInt8.toNat_inj.1 h1) h
  · exact h1
theorem gm_eq_zero {a b : UInt8} : gm a b = 0 ↔ a = 0 ∨ b = 0 := by
  constructor
  · intro h
    by_cases ha : a = 0
    · exact .inl ha
    · right
      have h1 : gm (ginv a) (gm a b) = 0 := by rw [h, gm_zero_right]
      rw [gm_assoc, gm_comm (ginv a) a, gm_inv ha, gm_one_left] at h1
      exact h1
  · rintro (rfl | rfl)
    · exact gm_zero_left b
    · exact gm_zero_right a
theorem ginv_ne {a : UInt8} (h : a ≠ 0) : ginv a ≠ 0 := by
  intro e
  have := gm_inv h
  rw [e, gm_zero_right] at this
  exact absurd this (by decide)

end Go.Proofs.Ytfikeilpgnahkaa
