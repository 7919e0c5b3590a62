/- Shapes as numbers; the document's lines of layer 9. No walk. -/
import Derived.Test.YtfboddnpkaiifaaBase
namespace Go.Proofs.Ytfboddnpkaiifaa
open Go.RowKit

structure Sh where
  k : Int
  n : Int
  seg : Int
  size : Int
  segs : Int
  tail : Int
  block : Int
  last : Int
deriving DecidableEq

def Sh.val (s : Sh) : Value := .agg #[.int .i64 s.k, .int .i64 s.n, .int .i64 s.seg, .int .i64 s.size, .int .i64 s.segs, .int .i64 s.tail, .int .i64 s.block, .int .i64 s.last]
def noSh : Sh := ⟨0, 0, 0, 0, 0, 0, 0, 0⟩

/-- a over b, rounded up -/
def upN (a b : Nat) : Nat := (a + b - 1) / b
def segsN (g z : Nat) : Nat := upN z g
def tailN (g z : Nat) : Nat := z - (segsN g z - 1) * g
def laidN (k n g z : Nat) : Sh := ⟨k, n, g, z, segsN g z, tailN g z, (g / k : Nat), upN (tailN g z) k⟩

theorem upN_le {a b q : Nat} (hb : 1 ≤ b) : upN a b ≤ q ↔ a ≤ q * b := by
  unfold upN
  rw [← Nat.lt_succ_iff, Nat.div_lt_iff_lt_mul (by omega), Nat.succ_mul]
  omega
theorem le_upN {a b : Nat} (hb : 1 ≤ b) : a ≤ upN a b * b := (upN_le hb).1 (Nat.le_refl _)
theorem upN_lt {a b : Nat} (hb : 1 ≤ b) : upN a b * b < a + b := by
  have := Nat.div_mul_le_self (a + b - 1) b
  unfold upN
  omega
theorem upN_pos {a b : Nat} (ha : 1 ≤ a) (hb : 1 ≤ b) : 1 ≤ upN a b := by
  by_cases h : 1 ≤ upN a b
  · exact h
  · have := le_upN (a := a) hb
    have e : upN a b = 0 := by omega
    rw [e] at this
    omega
theorem upN_self {b q : Nat} (hb : 1 ≤ b) : upN (q * b) b = q := by
  apply Nat.le_antisymm
  · exact (upN_le hb).2 (Nat.le_refl _)
  · have := le_upN (a := q * b) hb
    exact Nat.le_of_mul_le_mul_right this (by omega)
theorem upN_mono {a a' b : Nat} (hb : 1 ≤ b) (h : a ≤ a') : upN a b ≤ upN a' b := (upN_le hb).2 (Nat.le_trans h (le_upN hb))
theorem upN_small {a b : Nat} (hb : 1 ≤ b) : upN a b ≤ a := (upN_le hb).2 (Nat.le_mul_of_pos_right a (by omega))
/-- rounded up, the other way of reckoning it -/
theorem upN_other {a b : Nat} (hb : 1 ≤ b) : a / b + (a % b + b - 1) / b = upN a b := by
  have h := Nat.div_add_mod a b
  have hm := Nat.mod_lt a (show b > 0 by omega)
  unfold upN
  rw [show a + b - 1 = (a % b + b - 1) + b * (a / b) by omega, Nat.add_mul_div_left _ _ (by omega), Nat.add_comm]

theorem segs_pos {g z : Nat} (hg : 1 ≤ g) (hz : 1 ≤ z) : 1 ≤ segsN g z := upN_pos hz hg
theorem segs_below {g z : Nat} (hg : 1 ≤ g) (hz : 1 ≤ z) : (segsN g z - 1) * g < z := by
  have := upN_lt (a := z) hg
  have h1 := segs_pos hg hz
  unfold segsN at *
  rw [Nat.sub_mul]
  omega
theorem segs_above {g z : Nat} (hg : 1 ≤ g) : z ≤ segsN g z * g := le_upN hg
theorem tail_pos {g z : Nat} (hg : 1 ≤ g) (hz : 1 ≤ z) : 1 ≤ tailN g z := by
  have := segs_below hg hz
  unfold tailN
  omega
theorem tail_le {g z : Nat} (hg : 1 ≤ g) (hz : 1 ≤ z) : tailN g z ≤ g := by
  have := segs_above (g := g) (z := z) hg
  have h1 := segs_pos hg hz
  unfold tailN
  have e : segsN g z * g = (segsN g z - 1) * g + g := by
    rw [Nat.sub_mul, Nat.one_mul]
    have : g ≤ segsN g z * g := Nat.le_mul_of_pos_left g (by omega)
    omega
  omega
theorem tail_eq {g z : Nat} (hg : 1 ≤ g) (hz : 1 ≤ z) : (segsN g z - 1) * g + tailN g z = z := by
  have := segs_below hg hz
  unfold tailN
  omega

/-- may these parameters be? -/
def good (k n seg : Int) (ls : Nat) : Prop := 1 ≤ n ∧ n ≤ 255 ∧ 1 ≤ k ∧ k ≤ n ∧ 1 ≤ seg ∧ seg ≤ 65536 ∧ ls ≤ 64
instance (k n seg : Int) (ls : Nat) : Decidable (good k n seg ls) := by unfold good; infer_instance
def chE (k n seg : Int) (ls : Nat) : Nat := if good k n seg ls then 0 else 3

/-- may a file's size be? -/
def sized (z : Int) : Prop := 32 < z ∧ z ≤ 16777216
instance (z : Int) : Decidable (sized z) := by unfold sized; infer_instance

/-- the segment that is taken -/
def segT (k seg : Int) : Nat := k.toNat * upN seg.toNat k.toNat
def shE (k n seg : Int) (ls : Nat) (z : Int) : Nat :=
  if good k n seg ls then if sized z then if segsN (segT k seg) z.toNat ≤ 512 then 0 else 3 else 4 else 3
def shS (k n seg : Int) (ls : Nat) (z : Int) : Sh := if shE k n seg ls z = 0 then laidN k.toNat n.toNat (segT k seg) z.toNat else noSh

/-- may these four be a shape's? -/
def four (k n seg z : Int) : Prop := 1 ≤ n ∧ n ≤ 255 ∧ 1 ≤ k ∧ k ≤ n ∧ 1 ≤ seg ∧ seg.toNat % k.toNat = 0 ∧ seg.toNat / k.toNat ≤ upN 65536 k.toNat ∧ sized z
instance (k n seg z : Int) : Decidable (four k n seg z) := by unfold four; infer_instance
def agE (k n seg z : Int) : Nat := if four k n seg z then if segsN seg.toNat z.toNat ≤ 512 then 0 else 92 else 92
def agS (k n seg z : Int) : Sh := if agE k n seg z = 0 then laidN k.toNat n.toNat seg.toNat z.toNat else noSh

def fits (s : Sh) : Prop := agE s.k s.n s.seg s.size = 0 ∧ s = agS s.k s.n s.seg s.size
instance (s : Sh) : Decidable (fits s) := by unfold fits; infer_instance

def szE (s : Sh) (j : Int) : Nat := if fits s then if 0 ≤ j ∧ j < s.segs then 0 else 90 else 92
def szV (s : Sh) (j usual last : Int) : Int := if szE s j = 0 then if j = s.segs - 1 then last else usual else 0

def cvE (s : Sh) (at_ n : Int) : Nat := if fits s then if 0 ≤ at_ ∧ 1 ≤ n ∧ at_ ≤ s.size ∧ n ≤ s.size - at_ then 0 else 90 else 92
def cvA (s : Sh) (at_ n : Int) : Int := if cvE s at_ n = 0 then (at_.toNat / s.seg.toNat : Nat) else 0
def cvB (s : Sh) (at_ n : Int) : Int := if cvE s at_ n = 0 then ((at_.toNat + n.toNat - 1) / s.seg.toNat : Nat) else 0

theorem agE_zero {k n seg z : Int} : agE k n seg z = 0 ↔ four k n seg z ∧ segsN seg.toNat z.toNat ≤ 512 := by
  unfold agE
  by_cases h : four k n seg z
  · by_cases h2 : segsN seg.toNat z.toNat ≤ 512 <;> simp [h, h2]
  · simp [h]
theorem agE_not {k n seg z : Int} (h : agE k n seg z ≠ 0) : agE k n seg z = 92 := by
  unfold agE at *
  split at h <;> simp_all
theorem shE_zero {k n seg : Int} {ls : Nat} {z : Int} : shE k n seg ls z = 0 ↔ good k n seg ls ∧ sized z ∧ segsN (segT k seg) z.toNat ≤ 512 := by
  unfold shE
  by_cases h : good k n seg ls
  · by_cases h2 : sized z
    · by_cases h3 : segsN (segT k seg) z.toNat ≤ 512 <;> simp [h, h2, h3]
    · simp [h, h2]
  · simp [h]

/-- a taken segment is one of which a shape is told -/
theorem four_of {k n seg : Int} {ls : Nat} {z : Int} (h : good k n seg ls) (hz : sized z) : four k n (segT k seg : Nat) z := by
  obtain ⟨h1, h2, h3, h4, h5, h6, _⟩ := h
  have hk : 1 ≤ k.toNat := by omega
  have hu : 1 ≤ upN seg.toNat k.toNat := upN_pos (by omega) hk
  refine ⟨h1, h2, h3, h4, ?_, ?_, ?_, hz⟩
  · have : 1 ≤ segT k seg := Nat.mul_pos (by omega) (by omega)
    omega
  · show segT k seg % k.toNat = 0
    unfold segT
    exact Nat.mul_mod_right _ _
  · show segT k seg / k.toNat ≤ _
    unfold segT
    rw [Nat.mul_div_cancel_left _ (by omega)]
    exact upN_mono hk (by omega)

/-- P9.3: the document's asking: the size itself -/
theorem ag_first {k n seg z : Int} (h : shE k n seg 0 z = 0) (hs : (shS k n seg 0 z).seg = seg) : agE k n seg z = 0 ∧ agS k n seg z = shS k n seg 0 z := by
  have h' := shE_zero.1 h
  unfold shS at hs ⊢
  rw [if_pos h] at hs ⊢
  have e : (segT k seg : Int) = seg := hs
  have f := four_of h'.1 h'.2.1
  rw [e] at f
  have e2 : segT k seg = seg.toNat := by omega
  have ha : agE k n seg z = 0 := agE_zero.2 ⟨f, by rw [← e2]; exact h'.2.2⟩
  refine ⟨ha, ?_⟩
  unfold agS
  rw [if_pos ha, e2]
theorem ag_second {k n seg z : Int} (h : shE k n 65536 0 z = 0) (hs : (shS k n 65536 0 z).seg = seg) : agE k n seg z = 0 ∧ agS k n seg z = shS k n 65536 0 z := by
  have h' := shE_zero.1 h
  unfold shS at hs ⊢
  rw [if_pos h] at hs ⊢
  have e : (segT k 65536 : Int) = seg := hs
  have f := four_of h'.1 h'.2.1
  rw [e] at f
  have e2 : segT k 65536 = seg.toNat := by omega
  have ha : agE k n seg z = 0 := agE_zero.2 ⟨f, by rw [← e2]; exact h'.2.2⟩
  refine ⟨ha, ?_⟩
  unfold agS
  rw [if_pos ha, e2]
theorem ag_some {k n seg z : Int} (h : agE k n seg z = 0) : (shE k n seg 0 z = 0 ∧ (shS k n seg 0 z).seg = seg) ∨ (shE k n 65536 0 z = 0 ∧ (shS k n 65536 0 z).seg = seg) := by
  obtain ⟨⟨h1, h2, h3, h4, h5, h6, h7, hz⟩, hseg⟩ := agE_zero.1 h
  have hk : 1 ≤ k.toNat := by omega
  have hd := Nat.div_add_mod seg.toNat k.toNat
  rw [h6, Nat.add_zero] at hd
  have hd' : seg.toNat / k.toNat * k.toNat = seg.toNat := by rw [Nat.mul_comm]; exact hd
  by_cases hb : seg ≤ 65536
  · left
    have e : segT k seg = seg.toNat := by
      unfold segT
      rw [← hd', upN_self hk, Nat.mul_comm]
    have h0 : shE k n seg 0 z = 0 := shE_zero.2 ⟨⟨h1, h2, h3, h4, h5, hb, by omega⟩, hz, by rw [e]; exact hseg⟩
    refine ⟨h0, ?_⟩
    unfold shS
    rw [if_pos h0]
    show (segT k seg : Int) = seg
    omega
  · right
    have hq : upN 65536 k.toNat ≤ seg.toNat / k.toNat := (upN_le hk).2 (by rw [hd']; omega)
    have e : segT k 65536 = seg.toNat := by
      unfold segT
      rw [show (65536 : Int).toNat = 65536 from rfl, show upN 65536 k.toNat = seg.toNat / k.toNat by omega, hd]
    have h0 : shE k n 65536 0 z = 0 := shE_zero.2 ⟨⟨h1, h2, h3, h4, by decide, by decide, by omega⟩, hz, by rw [e]; exact hseg⟩
    refine ⟨h0, ?_⟩
    unfold shS
    rw [if_pos h0]
    show (segT k 65536 : Int) = seg
    omega

/-- what a shape that fits is -/
structure Fit (s : Sh) (k n g z : Nat) : Prop where
  eq : s = laidN k n g z
  k1 : 1 ≤ k
  kn : k ≤ n
  n1 : n ≤ 255
  g1 : 1 ≤ g
  g2 : g ≤ 65791
  z1 : 32 < z
  z2 : z ≤ 16777216
  segs : segsN g z ≤ 512
theorem fits_fit {s : Sh} (h : fits s) : ∃ k n g z, Fit s k n g z := by
  obtain ⟨h0, h1⟩ := h
  obtain ⟨⟨h1', h2, h3, h4, h5, h6, h7, hz⟩, hseg⟩ := agE_zero.1 h0
  unfold sized at hz
  unfold agS at h1
  rw [if_pos h0] at h1
  have hk : 1 ≤ s.k.toNat := by omega
  have hd := Nat.div_add_mod s.seg.toNat s.k.toNat
  rw [h6, Nat.add_zero] at hd
  have hu := upN_lt (a := 65536) hk
  have hm : s.k.toNat * (s.seg.toNat / s.k.toNat) ≤ s.k.toNat * upN 65536 s.k.toNat := Nat.mul_le_mul_left _ h7
  rw [Nat.mul_comm s.k.toNat (upN _ _)] at hm
  exact ⟨_, _, _, _, h1, by omega, by omega, by omega, by omega, by omega, by omega, by omega, hseg⟩

end Go.Proofs.Ytfboddnpkaiifaa
