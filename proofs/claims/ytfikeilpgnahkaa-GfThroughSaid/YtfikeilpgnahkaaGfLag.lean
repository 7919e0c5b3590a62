/- The polynomial through points, in plain Lean: Newton's way and Lagrange's come to the same; it goes through the points. -/
import Derived.Test.YtfikeilpgnahkaaGfPoly
namespace Go.Proofs.Ytfikeilpgnahkaa

theorem evL_congr (l m : List UInt8) (h : ∀ i, l.getD i 0 = m.getD i 0) (x : UInt8) : evL l x = evL m x := by
  have h1 := evL_all0 (sumL l m) (fun i => by rw [sumL_get, h, xor_self8]) x
  rw [sumL_ev] at h1
  have h2 : (evL l x ^^^ evL m x) ^^^ evL m x = 0 ^^^ evL m x := by rw [h1]
  rwa [UInt8.xor_assoc, xor_self8, xor0, xor0'] at h2
theorem evL_pad (s : List UInt8) (n : Nat) (x : UInt8) : evL (padL s n) x = evL s x := by
  apply evL_congr
  intro i
  unfold padL
  simp only [List.getD_eq_getElem?_getD]
  by_cases h : i < s.length
  · rw [List.getElem?_append_left h]
  · rw [List.getElem?_append_right (by omega), List.getElem?_eq_none (show s.length ≤ i by omega), List.getElem?_replicate]
    split <;> rfl
theorem padL_len (s : List UInt8) (n : Nat) : (padL s n).length = Nat.max s.length n := by
  unfold padL
  rw [List.length_append, List.length_replicate]
  show s.length + (n - s.length) = max s.length n
  omega
theorem evL_add (m s : List UInt8) (x : UInt8) : ∀ k, k ≤ m.length → k ≤ s.length → evL (addF m s k) x = evL s x ^^^ evL (m.take k) x
  | 0, _, _ => by simp [addF, evL_nil]
  | k + 1, h1, h2 => by
    have hm : m.getD k 0 = m[k]'(by omega) := by simp [List.getD_eq_getElem?_getD, show k < m.length by omega]
    rw [addF, evL_set _ _ _ _ (by rw [addF_len]; omega), evL_add m s x k (by omega) (by omega), evL_take (by omega), hm, UInt8.xor_assoc]
theorem evL_scale (f : UInt8) (l : List UInt8) (x : UInt8) : evL (scL f l) x = gm (evL l x) f := by
  induction l with
  | nil => rw [show scL f [] = [] from rfl, evL_nil, gm_zero_left]
  | cons c l ih =>
    rw [show scL f (c :: l) = gm c f :: scL f l from rfl, evL_cons, evL_cons, ih, gm_add_left, ← gm_assoc, ← gm_assoc, gm_comm f x]
theorem ev_lin (x z : UInt8) : evL [x, 1] z = z ^^^ x := by
  rw [evL_cons, evL_cons, evL_nil, gm_zero_left, xor0', gm_one_left]

/- what is nought at all of the first k -/
theorem nu_len (l : List (UInt8 × UInt8)) : ∀ k, (thSQ l k).2.length = k + 1 ∧ (thSQ l k).2.getD k 0 = 1
  | 0 => by simp [thSQ]
  | k + 1 => by
    obtain ⟨h1, h2⟩ := nu_len l k
    have h := prodL_lin (thSQ l k).2 (l.getD k (0, 0)).1 (by omega) (by rw [h1]; exact h2)
    rw [h1] at h
    exact h
theorem nu_ev (l : List (UInt8 × UInt8)) (z : UInt8) (k : Nat) : evL (thSQ l (k + 1)).2 z = gm (evL (thSQ l k).2 z) (z ^^^ (l.getD k (0, 0)).1) := by
  show evL (prodL (thSQ l k).2 [(l.getD k (0, 0)).1, 1]) z = _
  rw [evL_prodL, ev_lin]
theorem nu_zero (l : List (UInt8 × UInt8)) (z : UInt8) : ∀ k, evL (thSQ l k).2 z = 0 ↔ ∃ j, j < k ∧ z = (l.getD j (0, 0)).1
  | 0 => by
    constructor
    · intro h
      exact absurd h (by rw [show (thSQ l 0).2 = [1] from rfl, evL_cons, evL_nil, gm_zero_left]; decide)
    · rintro ⟨j, h, _⟩
      omega
  | k + 1 => by
    rw [nu_ev, gm_eq_zero, nu_zero l z k]
    constructor
    · rintro (⟨j, h, e⟩ | h)
      · exact ⟨j, by omega, e⟩
      · refine ⟨k, by omega, ?_⟩
        have h1 : (z ^^^ (l.getD k (0, 0)).1) ^^^ (l.getD k (0, 0)).1 = 0 ^^^ (l.getD k (0, 0)).1 := by rw [h]
        rwa [UInt8.xor_assoc, xor_self8, xor0, xor0'] at h1
    · rintro ⟨j, h, e⟩
      by_cases hj : j = k
      · exact .inr (by rw [e, hj, xor_self8])
      · exact .inl ⟨j, by omega, e⟩
/-- the first n places are unlike -/
def Unlike (l : List (UInt8 × UInt8)) (n : Nat) : Prop := ∀ i j, i < n → j < n → (l.getD i (0, 0)).1 = (l.getD j (0, 0)).1 → i = j
theorem unlike_ok (l : List (UInt8 × UInt8)) : ∀ k, k ≤ l.length → okTo l k = true → Unlike l k
  | 0, _, _ => fun i j hi _ _ => absurd hi (by omega)
  | k + 1, hk, h => by
    rw [okTo, Bool.and_eq_true] at h
    have ih := unlike_ok l k (by omega) h.1
    have hn : ∀ i, i < k → (l.getD i (0, 0)).1 ≠ (l.getD k (0, 0)).1 := by
      intro i hi e
      have h2 := h.2
      rw [Bool.not_eq_true', List.any_eq_false] at h2
      have hm : l.getD i (0, 0) ∈ l.take k := by
        have hil : i < l.length := by omega
        rw [List.getD_eq_getElem?_getD, List.getElem?_eq_getElem hil, Option.getD_some, show l[i] = (l.take k)[i]'(by rw [List.length_take]; omega) from List.getElem_take.symm]
        exact List.getElem_mem _
      exact h2 _ hm (by rw [e]; simp)
    intro i j hi hj e
    by_cases h1 : i = k
    · by_cases h2 : j = k
      · omega
      · exact absurd (h1 ▸ e.symm) (hn j (by omega))
    · by_cases h2 : j = k
      · exact absurd (h2 ▸ e) (hn i (by omega))
      · exact ih i j (by omega) (by omega) e
theorem Unlike.mono {l : List (UInt8 × UInt8)} {n k : Nat} (h : Unlike l n) (hk : k ≤ n) : Unlike l k := fun i j hi hj e => h i j (by omega) (by omega) e
theorem Unlike.nodup {l : List (UInt8 × UInt8)} (h : Unlike l l.length) : (l.map (·.1)).Nodup := by
  rw [List.nodup_iff_pairwise_ne, List.pairwise_iff_getElem]
  intro i j hi hj hij e
  simp only [List.length_map] at hi hj
  simp only [List.getElem_map] at e
  have := h i j hi hj (by simpa [List.getD_eq_getElem?_getD, hi, hj] using e)
  omega

/- Newton's -/
theorem th_len (l : List (UInt8 × UInt8)) : ∀ k, (thSQ l k).1.length ≤ k
  | 0 => by simp [thSQ]
  | k + 1 => by
    have h1 := (nu_len l k).1
    have ih := th_len l k
    show (addF _ (padL (thSQ l k).1 _) _).length ≤ k + 1
    rw [addF_len, padL_len, scL_length, h1]
    exact Nat.max_le.2 ⟨by omega, by omega⟩
theorem th_ev (l : List (UInt8 × UInt8)) (k : Nat) (z : UInt8) : evL (thSQ l (k + 1)).1 z = evL (thSQ l k).1 z ^^^ gm (evL (thSQ l k).2 z) (gm ((l.getD k (0, 0)).2 ^^^ evL (thSQ l k).1 (l.getD k (0, 0)).1) (ginv (evL (thSQ l k).2 (l.getD k (0, 0)).1))) := by
  show evL (addF _ (padL (thSQ l k).1 _) _) z = _
  rw [evL_add _ _ _ _ (Nat.le_refl _) (by rw [padL_len]; exact Nat.le_max_right _ _), evL_pad, List.take_length, evL_scale]
theorem th_goes (l : List (UInt8 × UInt8)) : ∀ k, Unlike l k → ∀ j, j < k → evL (thSQ l k).1 (l.getD j (0, 0)).1 = (l.getD j (0, 0)).2
  | 0, _, j, h => absurd h (by omega)
  | k + 1, hu, j, h => by
    rw [th_ev]
    by_cases hj : j = k
    · subst hj
      have hne : evL (thSQ l j).2 (l.getD j (0, 0)).1 ≠ 0 := by
        intro e
        obtain ⟨i, hi, e2⟩ := (nu_zero l _ j).1 e
        have := hu j i (by omega) (by omega) e2
        omega
      generalize evL (thSQ l j).2 (l.getD j (0, 0)).1 = e at hne ⊢
      generalize evL (thSQ l j).1 (l.getD j (0, 0)).1 = s
      rw [gm_comm e, ← gm_assoc, gm_comm (ginv e), gm_inv hne, gm_one, UInt8.xor_comm s, UInt8.xor_assoc, xor_self8, xor0]
    · rw [(nu_zero l _ k).2 ⟨j, by omega, rfl⟩, gm_zero_left, xor0, th_goes l k (hu.mono (by omega)) j (by omega)]

/- Lagrange's -/
theorem sdL_get (x : UInt8) : ∀ (l : List UInt8) (i : Nat), i + 1 < l.length → (sdL x l).getD i 0 = evL (l.drop (i + 1)) x
  | [], i, h => absurd h (by simp)
  | [_], i, h => absurd h (by simp)
  | c :: d :: l, 0, _ => by simp [sdL]
  | c :: d :: l, i + 1, h => by
    have := sdL_get x (d :: l) i (by simpa using h)
    simpa [sdL] using this
def lgF (l : List (UInt8 × UInt8)) (W : List UInt8) (k : Nat) : UInt8 := gm (l.getD k (0, 0)).2 (ginv (evL (sdL (l.getD k (0, 0)).1 W) (l.getD k (0, 0)).1))
def lgS (l : List (UInt8 × UInt8)) (W : List UInt8) (N : Nat) : Nat → List UInt8
  | 0 => List.replicate N 0
  | k + 1 => inF 0 (lgF l W k) (sdL (l.getD k (0, 0)).1 W) (lgS l W N k) (sdL (l.getD k (0, 0)).1 W).length
theorem lgS_len (l : List (UInt8 × UInt8)) (W : List UInt8) (N : Nat) : ∀ k, (lgS l W N k).length = N
  | 0 => by simp [lgS]
  | k + 1 => by rw [lgS, inF_len, lgS_len l W N k]
theorem lgS_ev (l : List (UInt8 × UInt8)) (W : List UInt8) (N : Nat) (hN : W.length ≤ N) (z : UInt8) (k : Nat) : evL (lgS l W N (k + 1)) z = evL (lgS l W N k) z ^^^ gm (lgF l W k) (evL (sdL (l.getD k (0, 0)).1 W) z) := by
  rw [lgS, evL_inF _ _ _ _ _ _ (Nat.le_refl _) (by rw [lgS_len, sdL_len]; omega), List.take_length]
  simp [gpow, gm_one]
theorem lgS_top (l : List (UInt8 × UInt8)) (W : List UInt8) (N p : Nat) (hp : W.length ≤ p + 1) : ∀ k, (lgS l W N k).getD p 0 = 0
  | 0 => by
    simp only [lgS, List.getD_eq_getElem?_getD, List.getElem?_replicate]
    split <;> rfl
  | k + 1 => by
    rw [lgS, inF_get, if_neg (by rw [sdL_len]; omega)]
    exact lgS_top l W N p hp k
/-- of the whole product without one: nought at the others, not there -/
theorem part_ev (l : List (UInt8 × UInt8)) (hu : Unlike l l.length) (k j : Nat) (hk : k < l.length) (hj : j < l.length) : evL (sdL (l.getD k (0, 0)).1 (thSQ l l.length).2) (l.getD j (0, 0)).1 = 0 ↔ j ≠ k := by
  obtain ⟨W, hW⟩ : ∃ W, W = (thSQ l l.length).2 := ⟨_, rfl⟩
  have hz : ∀ i, i < l.length → evL W (l.getD i (0, 0)).1 = 0 := fun i hi => by rw [hW]; exact (nu_zero l _ _).2 ⟨i, hi, rfl⟩
  have hlen := (nu_len l l.length).1
  have htop := (nu_len l l.length).2
  rw [← hW] at hlen htop ⊢
  have hne : ∀ i, i < l.length → i ≠ k → evL (sdL (l.getD k (0, 0)).1 W) (l.getD i (0, 0)).1 = 0 := by
    intro i hi hik
    have h := sdL_ev (l.getD k (0, 0)).1 (l.getD i (0, 0)).1 W
    rw [hz i hi, hz k hk, xor0] at h
    rcases gm_eq_zero.1 h.symm with h1 | h1
    · exfalso
      have h2 : ((l.getD i (0, 0)).1 ^^^ (l.getD k (0, 0)).1) ^^^ (l.getD k (0, 0)).1 = 0 ^^^ (l.getD k (0, 0)).1 := by rw [h1]
      rw [UInt8.xor_assoc, xor_self8, xor0, xor0'] at h2
      exact hik (hu i k hi hk h2)
    · exact h1
  constructor
  · intro h e
    subst e
    have hall : ∀ x, x ∈ l.map (·.1) → evL (sdL (l.getD j (0, 0)).1 W) x = 0 := by
      intro x hx
      rw [List.mem_map] at hx
      obtain ⟨p, hp, rfl⟩ := hx
      obtain ⟨i, hi, rfl⟩ := List.getElem_of_mem hp
      have hg : l[i] = l.getD i (0, 0) := by simp [List.getD_eq_getElem?_getD, hi]
      rw [hg]
      by_cases hij : i = j
      · rw [hij]; exact h
      · exact hne i hi hij
    have h0 := few_zeros (l.map (·.1)) (sdL (l.getD j (0, 0)).1 W) hu.nodup (by rw [sdL_len, List.length_map]; omega) hall
    have h1 := sdL_zero _ W (hz j hj) h0 l.length
    rw [htop] at h1
    exact absurd h1 (by decide)
  · exact hne j hj
theorem lg_goes (l : List (UInt8 × UInt8)) (hu : Unlike l l.length) (j : Nat) (hj : j < l.length) : ∀ k, k ≤ l.length → evL (lgS l (thSQ l l.length).2 (l.length + 1) k) (l.getD j (0, 0)).1 = if j < k then (l.getD j (0, 0)).2 else 0
  | 0, _ => by rw [if_neg (by omega)]; exact evL_zeros _ _
  | k + 1, hk => by
    rw [lgS_ev _ _ _ (Nat.le_of_eq (nu_len l l.length).1), lg_goes l hu j hj k (by omega)]
    by_cases hjk : j = k
    · subst hjk
      have hne : evL (sdL (l.getD j (0, 0)).1 (thSQ l l.length).2) (l.getD j (0, 0)).1 ≠ 0 := fun e => (part_ev l hu j j hj hj).1 e rfl
      rw [if_neg (by omega), if_pos (by omega), xor0', lgF, ← gm_assoc, gm_comm (ginv _), gm_inv hne, gm_one]
    · rw [(part_ev l hu k j (by omega) hj).2 hjk, gm_zero_right, xor0]
      by_cases h : j < k
      · rw [if_pos h, if_pos (by omega)]
      · rw [if_neg h, if_neg (by omega)]
theorem lg_same (l : List (UInt8 × UInt8)) (h : okTo l l.length = true) : trimL (lgS l (thSQ l l.length).2 (l.length + 1) l.length) = trimL (thSQ l l.length).1 := by
  have hu := unlike_ok l l.length (Nat.le_refl _) h
  have ht := lgS_top l (thSQ l l.length).2 (l.length + 1) l.length (by rw [(nu_len l l.length).1]; omega) l.length
  rw [← trimL_take _ l.length (by rw [lgS_len]; omega) (fun i h1 h2 => by rw [lgS_len] at h2; rw [show i = l.length by omega]; exact ht)]
  apply same_by_values (l.map (·.1)) _ _ hu.nodup
  · rw [List.length_take, List.length_map]; omega
  · rw [List.length_map]; exact th_len l l.length
  · intro x hx
    rw [List.mem_map] at hx
    obtain ⟨p, hp, rfl⟩ := hx
    obtain ⟨i, hi, rfl⟩ := List.getElem_of_mem hp
    have hg : l[i] = l.getD i (0, 0) := by simp [List.getD_eq_getElem?_getD, hi]
    rw [hg, th_goes l _ hu i hi, evL_take0 _ _ (fun k hk => by
      by_cases h1 : k = l.length
      · rw [h1]; exact ht
      · exact getD_out8 _ (by rw [lgS_len]; omega)), lg_goes l hu i hi _ (Nat.le_refl _), if_pos hi]
/-- a list comes back from its values -/
theorem back_again (l : List (UInt8 × UInt8)) (c : List UInt8) (h : okTo l l.length = true) (hc : (trimL c).length ≤ l.length) (hv : ∀ i, i < l.length → (l.getD i (0, 0)).2 = evL c (l.getD i (0, 0)).1) : trimL (thSQ l l.length).1 = trimL c := by
  have hu := unlike_ok l l.length (Nat.le_refl _) h
  rw [← trimL_twice c]
  apply same_by_values (l.map (·.1)) _ _ hu.nodup
  · rw [List.length_map]; exact th_len l l.length
  · rw [List.length_map]; exact hc
  · intro x hx
    rw [List.mem_map] at hx
    obtain ⟨p, hp, rfl⟩ := hx
    obtain ⟨i, hi, rfl⟩ := List.getElem_of_mem hp
    have hg : l[i] = l.getD i (0, 0) := by simp [List.getD_eq_getElem?_getD, hi]
    rw [hg, th_goes l _ hu i hi, evL_trim, hv i hi]

end Go.Proofs.Ytfikeilpgnahkaa
