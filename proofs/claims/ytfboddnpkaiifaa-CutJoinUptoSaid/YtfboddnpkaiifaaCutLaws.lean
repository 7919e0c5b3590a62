/- What shapes answer to each other. No walk. -/
import Derived.Test.YtfboddnpkaiifaaCutMath
namespace Go.Proofs.Ytfboddnpkaiifaa
open Go.RowKit

theorem sh_fields {k n seg : Int} {ls : Nat} {z : Int} (h : shE k n seg ls z = 0) : (shS k n seg ls z).k = k ∧ (shS k n seg ls z).n = n ∧ (shS k n seg ls z).seg = (segT k seg : Nat) ∧ (shS k n seg ls z).size = z := by
  obtain ⟨⟨h1, h2, h3, h4, h5, h6, _⟩, ⟨z1, z2⟩, _⟩ := shE_zero.1 h
  unfold shS
  rw [if_pos h]
  refine ⟨?_, ?_, rfl, ?_⟩
  · show (k.toNat : Int) = k; omega
  · show (n.toNat : Int) = n; omega
  · show (z.toNat : Int) = z; omega

/-- P9.10: a shape is told again by its four numbers -/
theorem sh_again {k n seg : Int} {ls : Nat} {z : Int} (h : shE k n seg ls z = 0) : agE k n (segT k seg : Nat) z = 0 ∧ agS k n (segT k seg : Nat) z = shS k n seg ls z := by
  have h' := shE_zero.1 h
  have ha : agE k n (segT k seg : Nat) z = 0 := agE_zero.2 ⟨four_of h'.1 h'.2.1, by simpa using h'.2.2⟩
  refine ⟨ha, ?_⟩
  unfold agS shS
  rw [if_pos h, if_pos ha]
  simp
theorem sh_fits {k n seg : Int} {ls : Nat} {z : Int} (h : shE k n seg ls z = 0) : fits (shS k n seg ls z) := by
  obtain ⟨e1, e2, e3, e4⟩ := sh_fields h
  unfold fits
  rw [e1, e2, e3, e4]
  exact ⟨(sh_again h).1, (sh_again h).2.symm⟩
theorem ag_fits {k n seg z : Int} (h : agE k n seg z = 0) : fits (agS k n seg z) := by
  rcases ag_some h with ⟨h0, hs⟩ | ⟨h0, hs⟩
  · rw [(ag_first h0 hs).2]; exact sh_fits h0
  · rw [(ag_second h0 hs).2]; exact sh_fits h0
theorem noSh_fits : ¬ fits noSh := by decide
theorem ag_fits_iff {k n seg z : Int} : fits (agS k n seg z) ↔ agE k n seg z = 0 := by
  constructor
  · intro h
    by_cases h0 : agE k n seg z = 0
    · exact h0
    · unfold agS at h
      rw [if_neg h0] at h
      exact absurd h noSh_fits
  · exact ag_fits

/-- and asked for by its own segment's size -/
theorem sh_own {k n seg : Int} {ls : Nat} {z : Int} (h : shE k n seg ls z = 0) (hs : segT k seg ≤ 65536) : shE k n (segT k seg : Nat) ls z = 0 ∧ shS k n (segT k seg : Nat) ls z = shS k n seg ls z := by
  obtain ⟨⟨h1, h2, h3, h4, h5, h6, h7⟩, hz, hseg⟩ := shE_zero.1 h
  have hk : 1 ≤ k.toNat := by omega
  have hp : 1 ≤ segT k seg := Nat.mul_pos (by omega) (upN_pos (by omega) hk)
  have e : segT k (segT k seg : Nat) = segT k seg := by
    show k.toNat * upN (segT k seg : Int).toNat k.toNat = segT k seg
    rw [Int.toNat_natCast]
    unfold segT
    rw [Nat.mul_comm k.toNat (upN seg.toNat k.toNat), upN_self hk, Nat.mul_comm]
  have h0 : shE k n (segT k seg : Nat) ls z = 0 := shE_zero.2 ⟨⟨h1, h2, h3, h4, by omega, by omega, h7⟩, hz, by rw [e]; exact hseg⟩
  refine ⟨h0, ?_⟩
  unfold shS
  rw [if_pos h, if_pos h0, e]

/-- a longer file has no fewer segments -/
theorem sh_more {k n seg : Int} {ls : Nat} {z m : Int} (h : shE k n seg ls z = 0) (hm : 0 ≤ m) : (shE k n seg ls (z + m) = 0 ∧ (shS k n seg ls z).segs ≤ (shS k n seg ls (z + m)).segs ∧ (shS k n seg ls (z + m)).seg = (shS k n seg ls z).seg ∧ (shS k n seg ls (z + m)).block = (shS k n seg ls z).block) ∨ shE k n seg ls (z + m) = 4 ∨ shE k n seg ls (z + m) = 3 := by
  obtain ⟨g, ⟨z1, z2⟩, hseg⟩ := shE_zero.1 h
  by_cases h0 : shE k n seg ls (z + m) = 0
  · left
    refine ⟨h0, ?_⟩
    have hk : 1 ≤ k.toNat := by have := g.2.2.1; omega
    have hp : 1 ≤ segT k seg := Nat.mul_pos (by omega) (upN_pos (by have := g.2.2.2.2.1; omega) hk)
    unfold shS
    rw [if_pos h, if_pos h0]
    refine ⟨?_, rfl, rfl⟩
    show ((segsN (segT k seg) z.toNat : Nat) : Int) ≤ (segsN (segT k seg) (z + m).toNat : Nat)
    have := upN_mono (a := z.toNat) (a' := (z + m).toNat) hp (by omega)
    exact Int.ofNat_le.2 this
  · right
    unfold shE at *
    rw [if_pos g] at *
    split at h0 <;> simp_all

/-- P9.8: where a stretch lies -/
theorem stretch {s : Sh} (hf : fits s) {p q : Nat} (hp : (p : Int) < s.size) (hq1 : 1 ≤ q) (hq : (p : Int) + q ≤ s.size) :
    ∃ a b t : Nat, cvE s p q = 0 ∧ cvA s p q = (a : Int) ∧ cvB s p q = (b : Int) ∧ a ≤ b ∧ (b : Int) < s.segs ∧ szE s b = 0 ∧ szV s b s.seg s.tail = (t : Int) ∧ t ≤ 65791 ∧
      (a : Int) * s.seg ≤ p ∧ (p : Int) < ((a : Int) + 1) * s.seg ∧ (b : Int) * s.seg ≤ (p : Int) + q - 1 ∧ (p : Int) + q - 1 < (b : Int) * s.seg + t ∧ (b : Int) < 512 ∧ s.seg ≤ 65791 ∧ 0 < s.seg := by
  obtain ⟨k, n, g, z, F⟩ := fits_fit hf
  have hs := F.eq
  have hg := F.g1
  have hz1 := F.z1
  have hk1 := F.k1
  have e1 : s.seg = (g : Int) := by rw [hs]; rfl
  have e2 : s.size = (z : Int) := by rw [hs]; rfl
  have e3 : s.segs = (segsN g z : Nat) := by rw [hs]; rfl
  have e4 : s.tail = (tailN g z : Nat) := by rw [hs]; rfl
  have hE : cvE s p q = 0 := by
    unfold cvE
    rw [if_pos hf, if_pos ⟨by omega, by omega, by omega, by omega⟩]
  have hA : cvA s p q = (p / g : Nat) := by
    unfold cvA
    rw [if_pos hE, e1]
    simp
  have hB : cvB s p q = ((p + q - 1) / g : Nat) := by
    unfold cvB
    rw [if_pos hE, e1]
    simp
  have hb1 : (p + q - 1) / g < segsN g z := by
    rw [Nat.div_lt_iff_lt_mul (by omega)]
    have := segs_above (g := g) (z := z) hg
    omega
  have hSz : szE s ((p + q - 1) / g : Nat) = 0 := by
    unfold szE
    rw [if_pos hf, if_pos ⟨Int.natCast_nonneg _, by rw [e3]; exact Int.ofNat_lt.2 hb1⟩]
  have hd := Nat.div_add_mod p g
  have hm := Nat.mod_lt p (show g > 0 by omega)
  have hd2 := Nat.div_add_mod (p + q - 1) g
  have hm2 := Nat.mod_lt (p + q - 1) (show g > 0 by omega)
  have c1 : p / g * g ≤ p := Nat.div_mul_le_self _ _
  have c2 : p < (p / g + 1) * g := by rw [Nat.add_mul, Nat.one_mul, Nat.mul_comm (p / g)]; omega
  have c3 : (p + q - 1) / g * g ≤ p + q - 1 := Nat.div_mul_le_self _ _
  have hseg := F.segs
  have hg2 := F.g2
  by_cases hl : (p + q - 1) / g = segsN g z - 1
  · have ht := tail_eq (g := g) (z := z) hg (by omega)
    refine ⟨p / g, (p + q - 1) / g, tailN g z, hE, hA, hB, Nat.div_le_div_right (by omega), by omega, hSz, ?_, ?_, ?_, ?_, ?_, ?_, by omega, by omega, by omega⟩
    · unfold szV
      rw [if_pos hSz, if_pos (by omega), e4]
    · exact Nat.le_trans (tail_le hg (by omega)) hg2
    · rw [e1]; exact_mod_cast c1
    · rw [e1]; exact_mod_cast c2
    · rw [e1]
      have : (((p + q - 1) / g * g : Nat) : Int) ≤ ((p + q - 1 : Nat) : Int) := Int.ofNat_le.2 c3
      rw [Int.natCast_mul] at this
      omega
    · rw [e1, hl]
      have : (((segsN g z - 1) * g + tailN g z : Nat) : Int) = (z : Int) := by rw [ht]
      rw [Int.natCast_add, Int.natCast_mul] at this
      omega
  · refine ⟨p / g, (p + q - 1) / g, g, hE, hA, hB, Nat.div_le_div_right (by omega), by omega, hSz, ?_, hg2, ?_, ?_, ?_, ?_, by omega, by omega, by omega⟩
    · unfold szV
      rw [if_pos hSz, if_neg (fun h => hl (by rw [e3] at h; generalize (p + q - 1) / g = bb at *; omega)), e1]
    · rw [e1]; exact_mod_cast c1
    · rw [e1]; exact_mod_cast c2
    · rw [e1]
      have : (((p + q - 1) / g * g : Nat) : Int) ≤ ((p + q - 1 : Nat) : Int) := Int.ofNat_le.2 c3
      rw [Int.natCast_mul] at this
      omega
    · rw [e1]
      have c4 : p + q - 1 < (p + q - 1) / g * g + g := by rw [Nat.mul_comm ((p + q - 1) / g) g]; omega
      have : ((p + q - 1 : Nat) : Int) < (((p + q - 1) / g * g + g : Nat) : Int) := Int.ofNat_lt.2 c4
      rw [Int.natCast_add, Int.natCast_mul] at this
      omega

end Go.Proofs.Ytfboddnpkaiifaa
