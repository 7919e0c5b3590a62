/- Polynomials in plain Lean: values of products, trimmed lists, a rest's noughts; a list of n coefficients that is nought at n places is nought. -/
import Derived.Test.YtfikeilpgnahkaaGfOver
namespace Go.Proofs.Ytfikeilpgnahkaa

theorem getD_set8 (l : List UInt8) (p i : Nat) (v : UInt8) : (l.set p v).getD i 0 = if p = i ∧ i < l.length then v else l.getD i 0 := by
  simp only [List.getD_eq_getElem?_getD, List.getElem?_set]
  by_cases h : p = i
  · subst h
    by_cases hl : p < l.length
    · simp [hl]
    · simp [hl]
  · simp [h]
theorem getD_out8 (l : List UInt8) {i : Nat} (h : l.length ≤ i) : l.getD i 0 = 0 := by
  simp [List.getD_eq_getElem?_getD, List.getElem?_eq_none h]
theorem getD_take8 (l : List UInt8) {n i : Nat} (h : i < n) : (l.take n).getD i 0 = l.getD i 0 := by
  simp [List.getD_eq_getElem?_getD, List.getElem?_take, h]
theorem ext8 {l m : List UInt8} (hl : l.length = m.length) (h : ∀ i, i < l.length → l.getD i 0 = m.getD i 0) : l = m := by
  apply List.ext_getElem hl
  intro i h1 h2
  have := h i h1
  simpa [List.getD_eq_getElem?_getD, h1, h2] using this
theorem set_same8 (l : List UInt8) (p : Nat) {v : UInt8} (h : v = l.getD p 0) : l.set p v = l := by
  apply ext8 (by simp)
  intro i _
  rw [getD_set8]
  split
  · next hh => rw [h, hh.1]
  · rfl

/- trimmed -/
theorem trimN_zero (l : List UInt8) : ∀ k i, trimN l k ≤ i → i < k → l.getD i 0 = 0
  | 0, i, _, h => absurd h (by omega)
  | k + 1, i, h1, h2 => by
    unfold trimN at h1
    split at h1
    · next hz =>
      by_cases hi : i = k
      · rw [hi]; exact hz
      · exact trimN_zero l k i h1 (by omega)
    · omega
theorem trimN_top (l : List UInt8) : ∀ k, 0 < trimN l k → l.getD (trimN l k - 1) 0 ≠ 0
  | 0, h => absurd h (by simp [trimN])
  | k + 1, h => by
    unfold trimN at h ⊢
    split
    · next hz => rw [if_pos hz] at h; exact trimN_top l k h
    · next hz => simpa using hz
theorem trimN_of (l : List UInt8) : ∀ k j, j ≤ k → (∀ i, j ≤ i → i < k → l.getD i 0 = 0) → (0 < j → l.getD (j - 1) 0 ≠ 0) → trimN l k = j
  | 0, j, h, _, _ => by simp [trimN]; omega
  | k + 1, j, h, hz, ht => by
    unfold trimN
    by_cases hj : j = k + 1
    · subst hj
      rw [if_neg (by simpa using ht (by omega))]
    · rw [if_pos (hz k (by omega) (by omega))]
      exact trimN_of l k j (by omega) (fun i h1 h2 => hz i h1 (by omega)) ht
theorem trimL_get (l : List UInt8) (i : Nat) : (trimL l).getD i 0 = l.getD i 0 := by
  unfold trimL
  by_cases h : i < trimN l l.length
  · exact getD_take8 l h
  · rw [getD_out8 _ (by rw [List.length_take]; omega)]
    by_cases hl : i < l.length
    · exact (trimN_zero l _ i (by omega) hl).symm
    · exact (getD_out8 l (by omega)).symm
theorem trimL_take (l : List UInt8) (L : Nat) (hL : L ≤ l.length) (hz : ∀ i, L ≤ i → i < l.length → l.getD i 0 = 0) : trimL (l.take L) = trimL l := by
  have hlen : trimN (l.take L) (l.take L).length = trimN l l.length := by
    apply trimN_of
    · rw [List.length_take, Nat.min_eq_left hL]
      by_cases h : 0 < trimN l l.length
      · have := trimN_top l l.length h
        have h2 := trimN_le l l.length
        by_cases h3 : trimN l l.length ≤ L
        · exact h3
        · exact absurd (hz (trimN l l.length - 1) (by omega) (by omega)) this
      · omega
    · intro i h1 h2
      rw [List.length_take, Nat.min_eq_left hL] at h2
      rw [getD_take8 l h2]
      exact trimN_zero l _ i h1 (by omega)
    · intro h
      have h4 := trimN_top l l.length h
      have h2 := trimN_le l l.length
      by_cases h3 : trimN l l.length ≤ L
      · rw [getD_take8 l (by omega)]; exact h4
      · exact absurd (hz (trimN l l.length - 1) (by omega) (by omega)) h4
  have h5 : trimN l l.length ≤ L := by rw [← hlen]; have := trimN_le (l.take L) (l.take L).length; rw [List.length_take] at this ⊢; omega
  unfold trimL
  rw [hlen, List.take_take, Nat.min_eq_left h5]
theorem trimL_idem (l : List UInt8) (h : trimN l l.length = l.length) : trimL l = l := by unfold trimL; rw [h]; simp
theorem trimL_top (l : List UInt8) (h : 0 < (trimL l).length) : (trimL l).getD ((trimL l).length - 1) 0 ≠ 0 := by
  rw [trimL_get, trimL_len]
  rw [trimL_len] at h
  exact trimN_top l _ h
theorem trimL_twice (l : List UInt8) : trimL (trimL l) = trimL l := by
  apply trimL_idem
  apply trimN_of _ _ _ (Nat.le_refl _) (fun i h1 h2 => by omega)
  intro h
  exact trimL_top l h
theorem trimL_short (l : List UInt8) (L : Nat) (h : ∀ i, L ≤ i → l.getD i 0 = 0) : (trimL l).length ≤ L := by
  by_cases h1 : (trimL l).length ≤ L
  · exact h1
  · have := trimL_top l (by omega)
    rw [trimL_get] at this
    exact absurd (h _ (by omega)) this

/- values -/
theorem evL_zeros (n : Nat) (x : UInt8) : evL (List.replicate n 0) x = 0 := by
  induction n with
  | zero => rfl
  | succ n ih => rw [List.replicate_succ, evL_cons, ih, gm_zero_left]; rfl
theorem xor0 (a : UInt8) : a ^^^ 0 = a := by simp
theorem xor0' (a : UInt8) : 0 ^^^ a = a := by simp
theorem evL_set : ∀ (l : List UInt8) (p : Nat) (c x : UInt8), p < l.length → evL (l.set p (l.getD p 0 ^^^ c)) x = evL l x ^^^ gm c (gpow x p)
  | [], p, c, x, h => absurd h (by simp)
  | d :: l, 0, c, x, _ => by
    simp only [List.set_cons_zero, evL_cons, List.getD_cons_zero, gpow, gm_one]
    rw [UInt8.xor_assoc]
  | d :: l, p + 1, c, x, h => by
    simp only [List.set_cons_succ, evL_cons, List.getD_cons_succ, gpow]
    rw [evL_set l p c x (by simpa using h), gm_add_left, gm_assoc, UInt8.xor_assoc, UInt8.xor_assoc, UInt8.xor_comm d]
theorem evL_all0 (l : List UInt8) (h : ∀ i, l.getD i 0 = 0) (x : UInt8) : evL l x = 0 := by
  have : l = List.replicate l.length 0 := by
    apply ext8 (by simp)
    intro i hi
    rw [h i]
    simp [List.getD_eq_getElem?_getD, hi]
  rw [this, evL_zeros]
theorem evL_take0 (l : List UInt8) (n : Nat) (h : ∀ i, n ≤ i → l.getD i 0 = 0) (x : UInt8) : evL (l.take n) x = evL l x := by
  induction l generalizing n with
  | nil => simp
  | cons d l ih =>
    cases n with
    | zero => rw [List.take_zero, evL_nil, evL_all0 _ (fun i => h i (by omega))]
    | succ n => rw [List.take_succ_cons, evL_cons, evL_cons, ih n (fun i hi => by have := h (i + 1) (by omega); simpa using this)]
theorem evL_trim (l : List UInt8) (x : UInt8) : evL (trimL l) x = evL l x := by
  unfold trimL
  apply evL_take0
  intro i hi
  by_cases hl : i < l.length
  · exact trimN_zero l _ i hi hl
  · exact getD_out8 l (by omega)
theorem gpow_add (x : UInt8) (i j : Nat) : gpow x (i + j) = gm (gpow x i) (gpow x j) := by
  induction j with
  | zero => simp [gpow, gm_one]
  | succ j ih => rw [← Nat.add_assoc, gpow, gpow, ih, gm_assoc]
theorem evL_inF (i : Nat) (x : UInt8) (b l : List UInt8) (y : UInt8) : ∀ k, k ≤ b.length → i + k ≤ l.length → evL (inF i x b l k) y = evL l y ^^^ gm (gm x (gpow y i)) (evL (b.take k) y)
  | 0, _, _ => by simp [inF, evL_nil, gm_zero_right]
  | k + 1, h1, h2 => by
    have hb : b.getD k 0 = b[k]'(by omega) := by simp [List.getD_eq_getElem?_getD, show k < b.length by omega]
    rw [inF, evL_set _ _ _ _ (by rw [inF_len]; omega), evL_inF i x b l y k (by omega) (by omega), evL_take (by omega), gm_add_right, UInt8.xor_assoc, gpow_add, hb]
    congr 2
    rw [gm_assoc, gm_assoc]
    congr 1
    rw [← gm_assoc, ← gm_assoc, gm_comm b[k]]
theorem evL_outF (a b l : List UInt8) (y : UInt8) : ∀ k, k ≤ a.length → k + b.length ≤ l.length + 1 → evL (outF a b l k) y = evL l y ^^^ gm (evL (a.take k) y) (evL b y)
  | 0, _, _ => by simp [outF, evL_nil, gm_zero_left]
  | k + 1, h1, h2 => by
    have ha : a.getD k 0 = a[k]'(by omega) := by simp [List.getD_eq_getElem?_getD, show k < a.length by omega]
    rw [outF, evL_inF _ _ _ _ _ _ (Nat.le_refl _) (by rw [outF_len]; omega), evL_outF a b l y k (by omega) (by omega), List.take_length, evL_take (by omega), gm_add_left, UInt8.xor_assoc, ha]
theorem evL_prodL (a b : List UInt8) (y : UInt8) : evL (prodL a b) y = gm (evL a y) (evL b y) := by
  unfold prodL
  split
  · next h =>
    rcases h with h | h
    · rw [List.eq_nil_of_length_eq_zero h, evL_nil, gm_zero_left]
    · rw [List.eq_nil_of_length_eq_zero h, evL_nil, gm_zero_right]
  · next h =>
    rw [evL_trim, prodM, evL_outF _ _ _ _ _ (Nat.le_refl _) (by simp; omega), List.take_length, evL_zeros, xor0']

/- places of a product -/
theorem inF_get (i : Nat) (x : UInt8) (b l : List UInt8) (p : Nat) : ∀ k, (inF i x b l k).getD p 0 = if i ≤ p ∧ p < i + k ∧ p < l.length then l.getD p 0 ^^^ gm x (b.getD (p - i) 0) else l.getD p 0
  | 0 => by rw [inF, if_neg (by omega)]
  | k + 1 => by
    rw [inF, getD_set8, inF_len]
    by_cases h : i + k = p ∧ p < l.length
    · rw [if_pos h, if_pos ⟨by omega, by omega, h.2⟩, inF_get i x b l (i + k) k, if_neg (by omega), h.1]
      congr 2
      rw [show p - i = k by omega]
    · rw [if_neg h, inF_get i x b l p k]
      by_cases h2 : i ≤ p ∧ p < i + k ∧ p < l.length
      · rw [if_pos h2, if_pos ⟨h2.1, by omega, h2.2.2⟩]
      · rw [if_neg h2, if_neg (by omega)]
theorem inF_zero (i : Nat) (b l : List UInt8) (k : Nat) : inF i 0 b l k = l := by
  apply ext8 (inF_len _ _ _ _ _)
  intro p _
  rw [inF_get, gm_zero_left, xor0]
  split <;> rfl
theorem inF_take (i : Nat) (x : UInt8) (b l : List UInt8) (L : Nat) : ∀ k, i + k ≤ L → (inF i x b l k).take L = inF i x b (l.take L) k
  | 0, _ => rfl
  | k + 1, h => by
    rw [inF, inF, ← inF_take i x b l L k (by omega), List.take_set, getD_take8 _ (by omega)]
theorem outF_hi (a b : List UInt8) (M p : Nat) : ∀ k, k + b.length ≤ p + 1 → 0 < b.length → (outF a b (List.replicate M 0) k).getD p 0 = 0
  | 0, _, _ => by
    simp only [outF, List.getD_eq_getElem?_getD, List.getElem?_replicate]
    split <;> rfl
  | k + 1, h, hb => by
    rw [outF, inF_get, if_neg (by omega)]
    exact outF_hi a b M p k (by omega) hb
/-- what is multiplied by z + x grows by one place, and its top stays -/
theorem prodM_lin (a : List UInt8) (x : UInt8) (h : 0 < a.length) : (prodM a [x, 1]).getD a.length 0 = a.getD (a.length - 1) 0 := by
  unfold prodM
  obtain ⟨k, hk⟩ : ∃ k, a.length = k + 1 := ⟨a.length - 1, by omega⟩
  rw [hk, outF, inF_get, if_pos ⟨by omega, by simp, by rw [outF_len]; simp⟩, outF_hi _ _ _ _ _ (by simp) (by simp), xor0']
  rw [show k + 1 - k = 1 by omega, show k + 1 - 1 = k by omega]
  simp [gm_one]
theorem prodL_lin (a : List UInt8) (x : UInt8) (h : 0 < a.length) (ht : a.getD (a.length - 1) 0 = 1) : (prodL a [x, 1]).length = a.length + 1 ∧ (prodL a [x, 1]).getD a.length 0 = 1 := by
  have h1 := prodM_lin a x h
  have hl : (prodM a [x, 1]).length = a.length + 1 := by rw [prodM_len]; simp
  have hne : ¬ (a.length = 0 ∨ [x, 1].length = 0) := by simp only [List.length_cons, List.length_nil]; omega
  unfold prodL
  rw [if_neg hne]
  refine ⟨?_, by rw [trimL_get, h1, ht]⟩
  rw [trimL_len, hl]
  refine trimN_of _ _ _ (Nat.le_refl _) (fun i h1 h2 => by omega) ?_
  intro _
  rw [show a.length + 1 - 1 = a.length by omega, h1, ht]
  decide

/- the division -/
theorem ov_hi (K : Nat) (a b : List UInt8) (hm : 0 < b.length) (hK : K + b.length = a.length + 1) (hb : b.getD (b.length - 1) 0 ≠ 0) : ∀ j, j ≤ K → ∀ i, a.length - j ≤ i → (ovS K a b j).2.getD i 0 = 0
  | 0, _, i, h => getD_out8 _ (by simp only [ovS]; omega)
  | j + 1, hj, i, h => by
    have ih := ov_hi K a b hm hK hb j (by omega)
    rw [ovS, inF_get, ovS_len2]
    by_cases hi : i = K - 1 - j + b.length - 1
    · rw [if_pos ⟨by omega, by omega, by omega⟩, ← hi, show i - (K - 1 - j) = b.length - 1 by omega, ← gm_assoc, gm_comm (ginv _), gm_inv hb, gm_one, xor_self8]
    · by_cases h2 : K - 1 - j ≤ i ∧ i < K - 1 - j + b.length ∧ i < a.length
      · omega
      · rw [if_neg h2]
        exact ih i (by omega)
theorem ov_q0 (K : Nat) (a b : List UInt8) : ∀ j, j ≤ K → ∀ i, i < K - j → (ovS K a b j).1.getD i 0 = 0
  | 0, _, i, h => by
    simp only [ovS, List.getD_eq_getElem?_getD, List.getElem?_replicate]
    split <;> rfl
  | j + 1, hj, i, h => by
    rw [ovS, getD_set8, if_neg (by omega)]
    exact ov_q0 K a b j (by omega) i (by omega)
theorem ov_ev (K : Nat) (a b : List UInt8) (hm : 0 < b.length) (hK : K + b.length = a.length + 1) (x : UInt8) : ∀ j, j ≤ K → evL a x = gm (evL (ovS K a b j).1 x) (evL b x) ^^^ evL (ovS K a b j).2 x
  | 0, _ => by rw [ovS, evL_zeros, gm_zero_left, xor0']
  | j + 1, hj => by
    have ih := ov_ev K a b hm hK x j (by omega)
    obtain ⟨f, hf⟩ : ∃ f, f = gm ((ovS K a b j).2.getD (K - 1 - j + b.length - 1) 0) (ginv (b.getD (b.length - 1) 0)) := ⟨_, rfl⟩
    rw [ovS, ← hf]
    have hq : f = (ovS K a b j).1.getD (K - 1 - j) 0 ^^^ f := by rw [ov_q0 K a b j (by omega) _ (by omega), xor0']
    have h1 : evL ((ovS K a b j).1.set (K - 1 - j) f) x = evL (ovS K a b j).1 x ^^^ gm f (gpow x (K - 1 - j)) := by
      rw [← evL_set _ _ _ _ (by rw [ovS_len1]; omega), ← hq]
    show evL a x = gm (evL ((ovS K a b j).1.set (K - 1 - j) f) x) (evL b x) ^^^ evL (inF (K - 1 - j) f b (ovS K a b j).2 b.length) x
    rw [h1, evL_inF _ _ _ _ _ _ (Nat.le_refl _) (by rw [ovS_len2]; omega), List.take_length, ih, gm_add_left]
    generalize gm (evL (ovS K a b j).1 x) (evL b x) = p
    generalize gm (gm f (gpow x (K - 1 - j))) (evL b x) = r
    generalize evL (ovS K a b j).2 x = s
    rw [UInt8.xor_comm s r, UInt8.xor_assoc, ← UInt8.xor_assoc r r, xor_self8, xor0']
theorem ov_skip (K : Nat) (a b : List UInt8) (j : Nat) (hj : j < K) (h : (ovS K a b j).2.getD (K - 1 - j + b.length - 1) 0 = 0) : ovS K a b (j + 1) = ovS K a b j := by
  rw [ovS, h, gm_zero_left, inF_zero]
  have : (ovS K a b j).1.set (K - 1 - j) 0 = (ovS K a b j).1 := set_same8 _ _ (ov_q0 K a b j (by omega) _ (by omega)).symm
  rw [this]
theorem ov_skips (K : Nat) (a b : List UInt8) (hm : 0 < b.length) (hK : K + b.length = a.length + 1) (j : Nat) : ∀ d, j + d ≤ K → (∀ i, a.length - (j + d) ≤ i → (ovS K a b j).2.getD i 0 = 0) → ovS K a b (j + d) = ovS K a b j
  | 0, _, _ => rfl
  | d + 1, h, hz => by
    have ih := ov_skips K a b hm hK j d (by omega) (fun i hi => hz i (by omega))
    rw [← Nat.add_assoc, ov_skip K a b (j + d) (by omega) (by rw [ih]; exact hz _ (by omega)), ih]

/-- the last: the rest is shorter than the divisor -/
theorem ov_end (K : Nat) (a b : List UInt8) (hm : 0 < b.length) (hK : K + b.length = a.length + 1) (j : Nat) (hj : j ≤ K) (hL : (trimL (ovS K a b j).2).length < b.length) : ovS K a b K = ovS K a b j := by
  have := ov_skips K a b hm hK j (K - j) (by omega) (fun i hi => by
    rw [← trimL_get]
    exact getD_out8 _ (by omega))
  rwa [show j + (K - j) = K by omega] at this
/-- one round of the document's division -/
theorem ov_round (K : Nat) (a b : List UInt8) (hm : 0 < b.length) (hK : K + b.length = a.length + 1) (hb : b.getD (b.length - 1) 0 ≠ 0) (j : Nat) (hj : j ≤ K) (L : Nat) (hL : L = (trimL (ovS K a b j).2).length) (h : b.length ≤ L) :
    ∃ j', j' ≤ K ∧ (ovS K a b j').1 = (ovS K a b j).1.set (L - b.length) (gm ((trimL (ovS K a b j).2).getD (L - 1) 0) (ginv (b.getD (b.length - 1) 0))) ∧
      trimL (ovS K a b j').2 = trimL (inF (L - b.length) (gm ((trimL (ovS K a b j).2).getD (L - 1) 0) (ginv (b.getD (b.length - 1) 0))) b (trimL (ovS K a b j).2) b.length) ∧
      (trimL (ovS K a b j').2).length < L := by
  have h1 := ov_hi K a b hm hK hb j hj
  have h2 := trimL_short _ _ h1
  rw [← hL] at h2
  have hLn : L ≤ a.length := by omega
  have hs := ov_skips K a b hm hK j (a.length - L - j) (by omega) (fun i hi => by
    rw [← trimL_get]
    exact getD_out8 _ (by omega))
  rw [show j + (a.length - L - j) = a.length - L by omega] at hs
  have hlt : a.length - L < K := by omega
  have hi1 : K - 1 - (a.length - L) = L - b.length := by omega
  have hi2 : L - b.length + b.length - 1 = L - 1 := by omega
  have hstep : ovS K a b (a.length - L + 1) = ((ovS K a b j).1.set (L - b.length) (gm ((trimL (ovS K a b j).2).getD (L - 1) 0) (ginv (b.getD (b.length - 1) 0))), inF (L - b.length) (gm ((trimL (ovS K a b j).2).getD (L - 1) 0) (ginv (b.getD (b.length - 1) 0))) b (ovS K a b j).2 b.length) := by
    rw [ovS, hi1, hi2, hs, ← trimL_get (ovS K a b j).2]
  have hz2 := ov_hi K a b hm hK hb (a.length - L + 1) (by omega)
  refine ⟨a.length - L + 1, by omega, by rw [hstep], ?_, ?_⟩
  · rw [hstep]
    have ht : trimL (ovS K a b j).2 = (ovS K a b j).2.take L := by unfold trimL; rw [← trimL_len, ← hL]
    have hz3 : ∀ i, L ≤ i → (inF (L - b.length) (gm ((trimL (ovS K a b j).2).getD (L - 1) 0) (ginv (b.getD (b.length - 1) 0))) b (ovS K a b j).2 b.length).getD i 0 = 0 := by
      intro i hi
      rw [inF_get, if_neg (by omega), ← trimL_get]
      exact getD_out8 _ (by omega)
    generalize (trimL (ovS K a b j).2).getD (L - 1) 0 = v at hz3 ⊢
    rw [ht, ← inF_take _ _ _ _ _ _ (by omega)]
    exact (trimL_take _ L (by rw [inF_len, ovS_len2]; exact hLn) (fun i hi _ => hz3 i hi)).symm
  · have := trimL_short _ _ (fun i hi => hz2 i hi)
    omega

/- few noughts -/
/-- a polynomial over z + x, without the rest -/
def sdL (x : UInt8) : List UInt8 → List UInt8
  | [] => []
  | [_] => []
  | _ :: d :: l => evL (d :: l) x :: sdL x (d :: l)
theorem sdL_len (x : UInt8) : ∀ l, (sdL x l).length = l.length - 1
  | [] => rfl
  | [_] => rfl
  | _ :: d :: l => by simp [sdL, sdL_len x (d :: l)]
theorem sdL_ev (x z : UInt8) : ∀ l, evL l z = gm (z ^^^ x) (evL (sdL x l) z) ^^^ evL l x
  | [] => by simp [sdL, evL_nil, gm_zero_right]
  | [c] => by simp [sdL, evL, gm_zero_right, gm_zero_left]
  | c :: d :: l => by
    have ih := sdL_ev x z (d :: l)
    rw [sdL, evL_cons c (d :: l) z, ih, evL_cons _ (sdL x (d :: l)), evL_cons c (d :: l) x]
    generalize evL (sdL x (d :: l)) z = s
    generalize evL (d :: l) x = e
    rw [gm_add_left, gm_add_right, gm_add_left z x e, gm_assoc, gm_comm e z, gm_comm e x]
    generalize gm (gm (z ^^^ x) s) z = p
    generalize gm z e = q
    generalize gm x e = r
    rw [UInt8.xor_assoc, UInt8.xor_assoc, UInt8.xor_assoc, ← UInt8.xor_assoc r r, xor_self8, xor0']
theorem sdL_zero (x : UInt8) : ∀ l : List UInt8, evL l x = 0 → (∀ i, (sdL x l).getD i 0 = 0) → ∀ i, l.getD i 0 = 0
  | [], _, _, i => by simp
  | [c], h, _, i => by
    have hc : c = 0 := by simpa [evL, gm_zero_left] using h
    subst hc
    cases i <;> simp
  | c :: d :: l, h, hs, i => by
    have h0 : evL (d :: l) x = 0 := by have := hs 0; simpa [sdL] using this
    have ih := sdL_zero x (d :: l) h0 (fun i => by have := hs (i + 1); simpa [sdL] using this)
    rw [evL_cons, h0, gm_zero_left, xor0'] at h
    cases i with
    | zero => simpa using h
    | succ i => simpa using ih i
/-- as many places as coefficients where it is nought: nought -/
theorem few_zeros : ∀ (xs : List UInt8) (l : List UInt8), xs.Nodup → l.length ≤ xs.length → (∀ x, x ∈ xs → evL l x = 0) → ∀ i, l.getD i 0 = 0
  | [], l, _, h, _, i => by
    have : l = [] := List.eq_nil_of_length_eq_zero (by simpa using h)
    subst this
    simp
  | x :: xs, l, hd, h, hz, i => by
    have hx := hz x (by simp)
    rw [List.nodup_cons] at hd
    refine sdL_zero x l hx (few_zeros xs (sdL x l) hd.2 (by rw [sdL_len]; simp at h; omega) (fun y hy => ?_)) i
    have hy0 := hz y (by simp [hy])
    rw [sdL_ev x y l, hx, xor0, gm_eq_zero] at hy0
    rcases hy0 with h0 | h0
    · exfalso
      have : y = x := by
        have h1 : (y ^^^ x) ^^^ x = 0 ^^^ x := by rw [h0]
        rwa [UInt8.xor_assoc, xor_self8, xor0, xor0'] at h1
      exact hd.1 (this ▸ hy)
    · exact h0
/-- the sum of two, place by place -/
def sumL : List UInt8 → List UInt8 → List UInt8
  | [], m => m
  | l, [] => l
  | c :: l, d :: m => (c ^^^ d) :: sumL l m
theorem sumL_nil (l : List UInt8) : sumL l [] = l := by cases l <;> rfl
theorem sumL_len : ∀ l m : List UInt8, (sumL l m).length = Nat.max l.length m.length
  | [], m => by simp [sumL]
  | c :: l, [] => by simp [sumL]
  | c :: l, d :: m => by simp [sumL, sumL_len l m, Nat.succ_max_succ]
theorem sumL_ev (x : UInt8) : ∀ l m : List UInt8, evL (sumL l m) x = evL l x ^^^ evL m x
  | [], m => by simp [sumL, evL_nil]
  | c :: l, [] => by simp [sumL, evL_nil]
  | c :: l, d :: m => by
    rw [sumL, evL_cons, evL_cons, evL_cons, sumL_ev x l m, gm_add_left]
    generalize gm (evL l x) x = p
    generalize gm (evL m x) x = q
    rw [UInt8.xor_assoc, UInt8.xor_assoc, UInt8.xor_comm q, UInt8.xor_assoc c d q, UInt8.xor_comm d, xor_lc8 c q d, UInt8.xor_comm c d, xor_lc8 q]
theorem sumL_get : ∀ (l m : List UInt8) (i : Nat), (sumL l m).getD i 0 = l.getD i 0 ^^^ m.getD i 0
  | [], m, i => by simp [sumL]
  | c :: l, [], i => by simp [sumL]
  | c :: l, d :: m, 0 => by simp [sumL]
  | c :: l, d :: m, i + 1 => by simpa [sumL] using sumL_get l m i
/-- two that agree at as many places as either has coefficients are alike, but for noughts behind -/
theorem same_by_values (xs : List UInt8) (l m : List UInt8) (hd : xs.Nodup) (hl : l.length ≤ xs.length) (hm : m.length ≤ xs.length) (h : ∀ x, x ∈ xs → evL l x = evL m x) : trimL l = trimL m := by
  have hz := few_zeros xs (sumL l m) hd (by rw [sumL_len]; exact Nat.max_le.2 ⟨hl, hm⟩) (fun x hx => by rw [sumL_ev, h x hx, xor_self8])
  have hg : ∀ i, l.getD i 0 = m.getD i 0 := by
    intro i
    have := hz i
    rw [sumL_get] at this
    have h1 : (l.getD i 0 ^^^ m.getD i 0) ^^^ m.getD i 0 = 0 ^^^ m.getD i 0 := by rw [this]
    rwa [UInt8.xor_assoc, xor_self8, xor0, xor0'] at h1
  have hlen : trimN l l.length = trimN m m.length := by
    apply trimN_of
    · by_cases h1 : trimN m m.length ≤ l.length
      · exact h1
      · have := trimN_top m m.length (by omega)
        rw [← hg, getD_out8 _ (by omega)] at this
        exact absurd rfl this
    · intro i h1 h2
      rw [hg]
      by_cases h3 : i < m.length
      · exact trimN_zero m _ i h1 h3
      · exact getD_out8 _ (by omega)
    · intro h1
      rw [hg]
      exact trimN_top m _ h1
  have hl2 : (trimL l).length = (trimL m).length := by rw [trimL_len, trimL_len, hlen]
  apply ext8 hl2
  intro i _
  rw [trimL_get, trimL_get, hg]

end Go.Proofs.Ytfikeilpgnahkaa
