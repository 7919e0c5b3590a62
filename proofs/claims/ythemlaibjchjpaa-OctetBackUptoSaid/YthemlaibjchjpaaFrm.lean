/- Plain Lean: numbers there and back; frames there and back; the order of lists of bytes. -/
import Derived.Test.YthemlaibjchjpaaSmall
import Derived.Test.YthemlaibjchjpaaBig
namespace Go.Proofs.Ythemlaibjchjpaa
open Go.RowKit

theorem small_big : ∀ (k x : Nat), smallL (bigL k x) = x % 256 ^ k
  | 0, x => by simp [bigL, smallL, Nat.mod_one]
  | k + 1, x => by
    rw [bigL, smallL_snoc, small_big k, UInt8.toNat_ofNat']
    have e : x % 256 ^ (k + 1) = x % 256 + 256 * (x / 256 % 256 ^ k) := by rw [Nat.pow_succ, Nat.mul_comm (256 ^ k) 256, Nat.mod_mul]
    rw [e]
    generalize x / 256 % 256 ^ k = y
    omega
theorem big_small : ∀ (k : Nat) (l : List UInt8), l.length = k → bigL k (smallL l) = l
  | 0, l, h => by rw [List.eq_nil_of_length_eq_zero h]; rfl
  | k + 1, l, h => by
    have hne : l ≠ [] := fun e => by rw [e] at h; cases h
    have hl := List.dropLast_concat_getLast hne
    have hlen : l.dropLast.length = k := by rw [List.length_dropLast]; omega
    have ih := big_small k _ hlen
    generalize l.dropLast = a at hl hlen ih
    generalize l.getLast hne = b at hl
    subst hl
    rw [smallL_snoc, bigL]
    have hb := b.toNat_lt
    have e1 : (smallL a * 256 + b.toNat) / 256 = smallL a := by omega
    rw [e1, ih]
    congr 2
    apply UInt8.toNat_inj.1
    rw [UInt8.toNat_ofNat']
    omega
theorem small_cons (x : UInt8) (t : List UInt8) : smallL (x :: t) = x.toNat * 256 ^ t.length + smallL t := by
  have go : ∀ (t : List UInt8) (a : Nat), t.foldl (fun x b => x * 256 + b.toNat) a = a * 256 ^ t.length + t.foldl (fun x b => x * 256 + b.toNat) 0 := by
    intro t
    induction t with
    | nil => intro a; simp
    | cons y t ih =>
      intro a
      simp only [List.foldl_cons, List.length_cons]
      rw [ih (a * 256 + y.toNat), ih (0 * 256 + y.toNat), Nat.pow_succ, Nat.add_mul, Nat.add_mul]
      simp only [Nat.zero_mul, Nat.zero_add]
      rw [Nat.mul_comm (256 ^ t.length) 256, Nat.mul_assoc, Nat.add_assoc]
  show (x :: t).foldl _ 0 = _
  rw [List.foldl_cons, go]
  simp [smallL]

/-- one list ahead of another, byte by byte -/
def lessL : List UInt8 → List UInt8 → Bool
  | _, [] => false
  | [], _ :: _ => true
  | x :: s, y :: t => if x = y then lessL s t else x.toNat < y.toNat
theorem lessL_refl : ∀ l, lessL l l = false
  | [] => rfl
  | x :: t => by rw [lessL, if_pos rfl]; exact lessL_refl t
theorem lessL_small : ∀ (a b : List UInt8), a.length = b.length → smallL a < smallL b → lessL a b = true
  | [], [], _, h => by simp at h
  | [], _ :: _, h, _ => by cases h
  | _ :: _, [], h, _ => by cases h
  | x :: s, y :: t, hl, h => by
    have hl' : s.length = t.length := by simpa using hl
    rw [small_cons, small_cons, hl'] at h
    rw [lessL]
    by_cases e : x = y
    · subst e
      rw [if_pos rfl]
      exact lessL_small s t hl' (by omega)
    · rw [if_neg e]
      have hs := smallL_lt s.length s rfl
      have ht := smallL_lt t.length t rfl
      rw [hl'] at hs
      have hne : x.toNat ≠ y.toNat := fun h => e (UInt8.toNat_inj.1 h)
      have : ¬ y.toNat < x.toNat := fun hlt => by
        have h1 : (y.toNat + 1) * 256 ^ t.length ≤ x.toNat * 256 ^ t.length := Nat.mul_le_mul_right _ hlt
        rw [Nat.add_mul, Nat.one_mul] at h1
        omega
      simp
      omega

/-- the frames of a row of lists -/
def fr : List (List UInt8) → List UInt8
  | [] => []
  | p :: ps => bigL 8 p.length ++ (p ++ fr ps)
theorem fr_snoc (ps : List (List UInt8)) (p : List UInt8) : fr (ps ++ [p]) = fr ps ++ (bigL 8 p.length ++ p) := by
  induction ps with
  | nil => simp [fr]
  | cons q ps ih => simp [fr, ih]
theorem fr_length (ps : List (List UInt8)) : (fr ps).length = 8 * ps.length + ps.flatten.length := by
  induction ps with
  | nil => rfl
  | cons p ps ih => simp only [fr, List.length_append, bigL_length, ih, List.length_cons, List.flatten_cons]; omega
/-- the row of which these are the frames -/
def unf (l : List UInt8) : Option (List (List UInt8)) :=
  if h0 : l = [] then some []
  else if l.length < 8 then none
  else if l.length - 8 < smallL (l.take 8) then none
  else (unf ((l.drop 8).drop (smallL (l.take 8)))).map ((l.drop 8).take (smallL (l.take 8)) :: ·)
termination_by l.length
decreasing_by
  have := List.length_pos_iff.2 h0
  simp only [List.length_drop]
  omega
theorem unf_nil : unf [] = some [] := by rw [unf]; simp
theorem unf_short {l : List UInt8} (h0 : l ≠ []) (h : l.length < 8) : unf l = none := by rw [unf]; simp [h0, h]
theorem unf_long {l : List UInt8} (h8 : 8 ≤ l.length) (h : l.length - 8 < smallL (l.take 8)) : unf l = none := by
  have h0 : l ≠ [] := fun e => by rw [e] at h8; simp at h8
  rw [unf, dif_neg h0, if_neg (by omega), if_pos h]
theorem unf_step {l : List UInt8} (h8 : 8 ≤ l.length) (h : ¬ l.length - 8 < smallL (l.take 8)) : unf l = (unf ((l.drop 8).drop (smallL (l.take 8)))).map ((l.drop 8).take (smallL (l.take 8)) :: ·) := by
  have h0 : l ≠ [] := fun e => by rw [e] at h8; simp at h8
  rw [unf, dif_neg h0, if_neg (by omega), if_neg h]
theorem unf_fr : ∀ (ps : List (List UInt8)), (∀ p ∈ ps, p.length < 18446744073709551616) → unf (fr ps) = some ps
  | [], _ => unf_nil
  | p :: ps, h => by
    have hp := h p (by simp)
    have ih := unf_fr ps (fun q hq => h q (by simp [hq]))
    have hl : (fr (p :: ps)).length = 8 + (p.length + (fr ps).length) := by simp [fr, bigL_length]
    have ht : (fr (p :: ps)).take 8 = bigL 8 p.length := by rw [fr, List.take_left' (bigL_length 8 _)]
    have hd : (fr (p :: ps)).drop 8 = p ++ fr ps := by rw [fr, List.drop_left' (bigL_length 8 _)]
    have hs : smallL (bigL 8 p.length) = p.length := by rw [small_big]; exact Nat.mod_eq_of_lt (by simpa using hp)
    rw [unf_step (by omega) (by rw [ht, hs, hl]; omega), ht, hd, hs, List.drop_left' rfl, List.take_left' rfl, ih]
    rfl
theorem fr_unf : ∀ (N : Nat) (l : List UInt8) (ps : List (List UInt8)), l.length ≤ N → unf l = some ps → fr ps = l := by
  intro N
  induction N with
  | zero =>
    intro l ps h hu
    obtain rfl : l = [] := List.eq_nil_of_length_eq_zero (by omega)
    rw [unf_nil] at hu
    injection hu with hu
    subst hu
    rfl
  | succ N ih =>
    intro l ps h hu
    by_cases h0 : l = []
    · subst h0
      rw [unf_nil] at hu
      injection hu with hu
      subst hu
      rfl
    · by_cases h8 : l.length < 8
      · rw [unf_short h0 h8] at hu; cases hu
      · by_cases hl : l.length - 8 < smallL (l.take 8)
        · rw [unf_long (by omega) hl] at hu; cases hu
        · rw [unf_step (by omega) hl] at hu
          cases hr : unf ((l.drop 8).drop (smallL (l.take 8))) with
          | none => rw [hr] at hu; cases hu
          | some qs =>
            rw [hr] at hu
            injection hu with hu
            subst hu
            have h1 := ih _ qs (by simp only [List.length_drop]; omega) hr
            have hlen : ((l.drop 8).take (smallL (l.take 8))).length = smallL (l.take 8) := by simp only [List.length_take, List.length_drop]; omega
            rw [fr, h1, hlen, big_small 8 _ (by rw [List.length_take]; omega), List.take_append_drop, List.take_append_drop]
theorem fr_inj {ps qs : List (List UInt8)} (hp : ∀ p ∈ ps, p.length < 18446744073709551616) (hq : ∀ p ∈ qs, p.length < 18446744073709551616) (h : fr ps = fr qs) : ps = qs := by
  have h1 := unf_fr ps hp
  rw [h, unf_fr qs hq] at h1
  injection h1 with h1
  exact h1.symm
theorem unf_flat {l : List UInt8} {ps : List (List UInt8)} (h : unf l = some ps) : 8 * ps.length + ps.flatten.length = l.length := by
  rw [← fr_length, fr_unf _ l ps (Nat.le_refl _) h]

end Go.Proofs.Ythemlaibjchjpaa
