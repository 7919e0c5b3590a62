/- Points that the call owns; the values of a polynomial at the places from one on: in plain Lean. -/
import Derived.Test.YtfikeilpgnahkaaGfLag
namespace Go.Proofs.Ytfikeilpgnahkaa
open Go.RowKit Go.Shelf

/-- points as cells -/
def pcells (l : List (UInt8 × UInt8)) : List Value := l.flatMap fun p => [bval p.1, bval p.2]
theorem pcells_append (l m : List (UInt8 × UInt8)) : pcells (l ++ m) = pcells l ++ pcells m := by simp [pcells]
theorem pcells_cons (p : UInt8 × UInt8) (l : List (UInt8 × UInt8)) : pcells (p :: l) = bval p.1 :: bval p.2 :: pcells l := by simp [pcells]
theorem pcells_len (l : List (UInt8 × UInt8)) : (pcells l).length = l.length * 2 := by
  induction l with
  | nil => rfl
  | cons p l ih => rw [pcells_cons, List.length_cons, List.length_cons, ih, List.length_cons]; omega
theorem pcells_get : ∀ (l : List (UInt8 × UInt8)) (k : Nat) (hk : k < l.length), (pcells l)[k * 2]? = some (bval l[k].1) ∧ (pcells l)[k * 2 + 1]? = some (bval l[k].2)
  | [], k, h => absurd h (by simp)
  | p :: l, 0, _ => by rw [pcells_cons]; exact ⟨rfl, rfl⟩
  | p :: l, k + 1, h => by
    have ih := pcells_get l k (by simpa using h)
    rw [pcells_cons, show (k + 1) * 2 = k * 2 + 1 + 1 by omega, show k * 2 + 1 + 1 + 1 = (k * 2 + 1) + 1 + 1 by omega]
    simpa using ih
theorem pcells_one (l : List (UInt8 × UInt8)) : ∀ u ∈ pcells l, u.oneCell' = true := by
  intro u hu
  simp only [pcells, List.mem_flatMap, List.mem_cons, List.not_mem_nil, or_false] at hu
  obtain ⟨p, _, rfl | rfl⟩ := hu <;> rfl
theorem elP : El Try.prog 52 54 (.agg #[.int .u8 0, .int .u8 0]) 2 2 :=
  ⟨Try.underlying52, info_parts (by kernel_rfl), rfl, by decide⟩
theorem Own.plies {w : World} {base n c : Nat} {a : Option Addr} {l : List (UInt8 × UInt8)} (h : Own w base 54 2 a n c (pcells l)) : PLies w a l := by
  intro k hk
  have hl := pcells_len l
  have h1 := (pcells_get l k hk).1
  have h2 := (pcells_get l k hk).2
  obtain ⟨g, e, _, _, hc1, _⟩ := Own.cell h (k * 2) (by omega)
  obtain ⟨g', e', _, _, hc2, _⟩ := Own.cell h (k * 2 + 1) (by omega)
  rw [e] at e'
  injection e' with e'; injection e' with e'
  subst e'
  rw [List.getElem?_eq_getElem (by omega)] at h1 h2
  injection h1 with h1
  injection h2 with h2
  rw [h1] at hc1
  rw [h2] at hc2
  refine ⟨g, 0, e, ?_⟩
  intro j v hj
  match j, hj with
  | 0, hj => rw [Nat.zero_add, Nat.add_zero, hc1]; simpa using hj
  | 1, hj => rw [Nat.zero_add, hc2]; simpa using hj
  | j + 2, hj => simp at hj
theorem PLies.src {w : World} {b o : Nat} {l : List (UInt8 × UInt8)} (h : PLies w (some ⟨b, o, none⟩) l) : ∀ j u, (pcells l)[j]? = some u → w.cell? ((⟨b, o, none⟩ : Addr).add j) = some u := by
  intro j u hu
  have hadd : (⟨b, o, none⟩ : Addr).add j = ⟨b, o + j, none⟩ := by unfold Addr.add; split <;> simp_all
  rw [hadd]
  obtain ⟨hj, rfl⟩ := List.getElem?_eq_some_iff.1 hu
  rw [pcells_len] at hj
  obtain ⟨b', o', e, hc⟩ := h (j / 2) (by omega)
  injection e with e; injection e with e1 e2
  subst e1; subst e2
  obtain ⟨h1, h2⟩ := pcells_get l (j / 2) (by omega)
  rw [List.getElem?_eq_getElem (by rw [pcells_len]; omega)] at h1 h2
  injection h1 with h1
  injection h2 with h2
  by_cases hp : j % 2 = 0
  · have e : j / 2 * 2 = j := by omega
    have := hc 0 _ rfl
    rw [← h1] at this
    simp only [e, Nat.add_zero] at this
    exact this
  · have e : j / 2 * 2 + 1 = j := by omega
    have := hc 1 _ rfl
    rw [← h2] at this
    simp only [Nat.add_assoc, e] at this
    exact this

theorem ok_of_unlike (l : List (UInt8 × UInt8)) : ∀ k, k ≤ l.length → Unlike l k → okTo l k = true
  | 0, _, _ => rfl
  | k + 1, hk, h => by
    rw [okTo, ok_of_unlike l k (by omega) (h.mono (by omega)), Bool.true_and, Bool.not_eq_true', List.any_eq_false]
    intro p hp e
    obtain ⟨i, hi, rfl⟩ := List.getElem_of_mem hp
    rw [List.length_take] at hi
    rw [List.getElem_take] at e
    have := h i k (by omega) (by omega) (by simpa [List.getD_eq_getElem?_getD, show i < l.length by omega] using e)
    omega

/- values from a first place on -/
def xI (first : UInt8) (i : Nat) : UInt8 := UInt8.ofNat i + first
theorem xI_inj (first : UInt8) {i j : Nat} (hi : i < 256) (hj : j < 256) (h : xI first i = xI first j) : i = j := by
  have h1 := congrArg UInt8.toNat h
  simp only [xI, UInt8.toNat_add, UInt8.toNat_ofNat'] at h1
  omega
theorem xI_val (first : UInt8) (i : Nat) (hi : i < 256) : IntKind.u8.wrap ((i : Int) + (first.toNat : Int)) = ((xI first i).toNat : Int) := by
  have h1 : (xI first i).toNat = (i + first.toNat) % 256 := by simp only [xI, UInt8.toNat_add, UInt8.toNat_ofNat']; omega
  rw [h1, IntKind.wrap_u8]
  omega
def ptL (c : List UInt8) (first : UInt8) (M i : Nat) : List (UInt8 × UInt8) := (List.range (min i M)).map fun j => (xI first j, evL c (xI first j))
theorem ptL_len (c : List UInt8) (first : UInt8) (M i : Nat) : (ptL c first M i).length = min i M := by simp [ptL]
theorem ptL_step (c : List UInt8) (first : UInt8) (M i : Nat) (h : i < M) : ptL c first M (i + 1) = ptL c first M i ++ [(xI first i, evL c (xI first i))] := by
  unfold ptL
  rw [show min (i + 1) M = min i M + 1 by omega, List.range_succ, List.map_append, show min i M = i by omega]
  rfl
theorem ptL_stay (c : List UInt8) (first : UInt8) (M i : Nat) (h : M ≤ i) : ptL c first M (i + 1) = ptL c first M i := by
  unfold ptL
  rw [show min (i + 1) M = min i M by omega]
theorem ptL_get (c : List UInt8) (first : UInt8) (M i j : Nat) (h : j < min i M) : (ptL c first M i).getD j (0, 0) = (xI first j, evL c (xI first j)) := by
  have h' : (List.range (min i M))[j]? = some j := by rw [List.getElem?_range h]
  simp only [ptL, List.getD_eq_getElem?_getD, List.getElem?_map, h', Option.map_some, Option.getD_some]
theorem ptL_unlike (c : List UInt8) (first : UInt8) (M i : Nat) (hi : i ≤ 256) : Unlike (ptL c first M i) (ptL c first M i).length := by
  intro j k hj hk e
  rw [ptL_len] at hj hk
  rw [ptL_get _ _ _ _ _ hj, ptL_get _ _ _ _ _ hk] at e
  exact xI_inj first (by omega) (by omega) e
def zC (c : List UInt8) (first : UInt8) (i : Nat) : Nat := ((List.range i).filter fun j => evL c (xI first j) == 0).length
theorem zC_succ (c : List UInt8) (first : UInt8) (i : Nat) : zC c first (i + 1) = zC c first i + if evL c (xI first i) = 0 then 1 else 0 := by
  unfold zC
  rw [List.range_succ, List.filter_append, List.length_append]
  congr 1
  by_cases h : evL c (xI first i) = 0
  · rw [if_pos h]; simp [h]
  · rw [if_neg h]; simp [h]
theorem zC_le (c : List UInt8) (first : UInt8) (i : Nat) : zC c first i ≤ i := by
  unfold zC
  exact Nat.le_trans (List.length_filter_le _ _) (by simp)
theorem zC_few (c : List UInt8) (first : UInt8) (h : 0 < (trimL c).length) : zC c first 256 < (trimL c).length := by
  by_cases hz : zC c first 256 < (trimL c).length
  · exact hz
  · exfalso
    have hall := few_zeros (((List.range 256).filter fun j => evL c (xI first j) == 0).map (xI first)) (trimL c) (by
      rw [List.nodup_iff_pairwise_ne, List.pairwise_map]
      have h1 : (List.range 256).Nodup := List.nodup_range
      have h2 := (List.filter_sublist (l := List.range 256) (p := fun j => evL c (xI first j) == 0)).nodup h1
      rw [List.nodup_iff_pairwise_ne] at h2
      refine List.Pairwise.imp_of_mem ?_ h2
      intro a b ha hb hne e
      have ha' := (List.mem_filter.1 ha).1
      have hb' := (List.mem_filter.1 hb).1
      rw [List.mem_range] at ha' hb'
      exact hne (xI_inj first ha' hb' e)) (by rw [List.length_map]; unfold zC at hz; omega) (by
      intro x hx
      rw [List.mem_map] at hx
      obtain ⟨j, hj, rfl⟩ := hx
      have := (List.mem_filter.1 hj).2
      rw [evL_trim]
      simpa using this)
    exact trimL_top c h (hall _)
theorem again_val (c : List UInt8) (first : UInt8) (M : Nat) (hM : M ≤ 256) (hc : (trimL c).length ≤ M) : throughE (ptL c first M 256) = 0 ∧ throughV (ptL c first M 256) = trimL c := by
  have hl : (ptL c first M 256).length = M := by rw [ptL_len]; omega
  have hu := ptL_unlike c first M 256 (Nat.le_refl _)
  have hok := ok_of_unlike _ _ (Nat.le_refl _) hu
  have hE : throughE (ptL c first M 256) = 0 := by
    unfold throughE
    rw [if_neg (by omega), hok]
    rfl
  refine ⟨hE, ?_⟩
  unfold throughV
  rw [if_pos hE]
  exact back_again _ c hok (by omega) (fun i hi => by rw [ptL_len] at hi; rw [ptL_get _ _ _ _ _ hi])

end Go.Proofs.Ytfikeilpgnahkaa
