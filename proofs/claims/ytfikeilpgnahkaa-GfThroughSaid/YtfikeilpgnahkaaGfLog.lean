/- The generator's powers are all elements but nought, each once: in plain Lean. -/
import Derived.Test.YtfikeilpgnahkaaGfMath
namespace Go.Proofs.Ytfikeilpgnahkaa

/-- x, x times the generator, and so on -/
def expTab : Nat → Nat → List Nat
  | 0, _ => []
  | n + 1, x => x :: expTab n (gmN x 2)
theorem expTab_length : ∀ n x, (expTab n x).length = n := by
  intro n
  induction n with
  | zero => intro x; rfl
  | succ n ih => intro x; simp [expTab, ih]
theorem expTab_get : ∀ (n k i : Nat), i < n → (expTab n (gexp k).toNat)[i]? = some (gexp (k + i)).toNat := by
  intro n
  induction n with
  | zero => intro k i h; omega
  | succ n ih =>
    intro k i h
    cases i with
    | zero => rfl
    | succ i =>
      have e : gmN (gexp k).toNat 2 = (gexp (k + 1)).toNat := by rw [gexp, gm_toNat]; rfl
      simp only [expTab, List.getElem?_cons_succ]
      rw [e, ih (k + 1) i (by omega)]
      congr 3
      omega
theorem tab_all : ((List.range 255).all fun i => (expTab 255 1).contains (i + 1)) = true := by decide +kernel
theorem tab_nodup : (expTab 255 1).Nodup := by decide +kernel
theorem gexp_255 : gexp 255 = 1 := by
  have h : (expTab 256 1)[255]? = some 1 := by decide +kernel
  have := expTab_get 256 0 255 (by omega)
  rw [show (gexp 0).toNat = 1 from rfl, h] at this
  have e : (1 : UInt8).toNat = (gexp 255).toNat := Option.some.inj this
  exact (UInt8.toNat_inj.1 e).symm

theorem gexp_surj (a : UInt8) (h : a ≠ 0) : ∃ i, i < 255 ∧ gexp i = a := by
  have hn : a.toNat ≠ 0 := fun e => h (UInt8.toNat_inj.1 e)
  have h1 := List.all_eq_true.1 tab_all (a.toNat - 1) (List.mem_range.2 (by have := a.toNat_lt; omega))
  rw [List.contains_iff_mem, show a.toNat - 1 + 1 = a.toNat from by omega] at h1
  obtain ⟨i, hi, e⟩ := List.getElem_of_mem h1
  have hi' : i < 255 := by rw [expTab_length] at hi; exact hi
  refine ⟨i, hi', ?_⟩
  have := expTab_get 255 0 i hi'
  rw [show (gexp 0).toNat = 1 from rfl, List.getElem?_eq_getElem hi, e, Nat.zero_add] at this
  exact (UInt8.toNat_inj.1 (Option.some.inj this)).symm
theorem gexp_inj {i j : Nat} (hi : i < 255) (hj : j < 255) (h : gexp i = gexp j) : i = j := by
  have h1 := expTab_get 255 0 i hi
  have h2 := expTab_get 255 0 j hj
  rw [show (gexp 0).toNat = 1 from rfl] at h1 h2
  rw [Nat.zero_add, h, ← Nat.zero_add j, ← h2] at h1
  exact (List.getElem?_inj (by rw [expTab_length]; exact hi) tab_nodup).1 h1
theorem gexp_ne {i : Nat} (hi : i < 255) : gexp i ≠ 0 := by
  intro h
  have h1 := expTab_get 255 0 i hi
  rw [show (gexp 0).toNat = 1 from rfl, Nat.zero_add, h] at h1
  have h2 : (0 : Nat) ∈ expTab 255 1 := List.mem_of_getElem? h1
  have h3 : ((expTab 255 1).contains 0) = false := by decide +kernel
  rw [List.contains_iff_mem.2 h2] at h3
  cases h3

/-- the exponent of an element; 0 of nought -/
def glog (a : UInt8) : Nat := ((List.range 255).find? fun i => gexp i == a).getD 0
theorem glog_spec {a : UInt8} (h : a ≠ 0) : glog a < 255 ∧ gexp (glog a) = a := by
  obtain ⟨i, hi, e⟩ := gexp_surj a h
  have h1 : ((List.range 255).find? fun i => gexp i == a).isSome = true := List.find?_isSome.2 ⟨i, List.mem_range.2 hi, by simpa using e⟩
  obtain ⟨j, hj⟩ := Option.isSome_iff_exists.1 h1
  unfold glog
  rw [hj]
  exact ⟨List.mem_range.1 (List.mem_of_find?_eq_some hj), by simpa using List.find?_some hj⟩
theorem glog_zero : glog 0 = 0 := by
  have h1 : ((List.range 255).find? fun i => gexp i == 0) = none := by
    rw [List.find?_eq_none]
    intro i hi
    have := gexp_ne (List.mem_range.1 hi)
    simpa using this
  unfold glog
  rw [h1]; rfl
theorem glog_first {a : UInt8} (h : a ≠ 0) {i : Nat} (hi : i < glog a) : gexp i ≠ a := by
  intro e
  have := glog_spec h
  have := gexp_inj (by omega) this.1 (e.trans this.2.symm)
  omega
theorem glog_gexp {i : Nat} (hi : i < 255) : glog (gexp i) = i :=
  gexp_inj (glog_spec (gexp_ne hi)).1 hi (glog_spec (gexp_ne hi)).2

end Go.Proofs.Ytfikeilpgnahkaa
