/- Sums of products, values of polynomials: in plain Lean. -/
import Derived.Test.YtfikeilpgnahkaaGfExp
namespace Go.Proofs.Ytfikeilpgnahkaa

/-- the sum of the products, place by place -/
def dotL (a b : List UInt8) : UInt8 := (a.zipWith gm b).foldl (· ^^^ ·) 0
theorem dotL_snoc {a b : List UInt8} (h : a.length = b.length) (x y : UInt8) : dotL (a ++ [x]) (b ++ [y]) = dotL a b ^^^ gm x y := by
  unfold dotL
  rw [List.zipWith_append h]
  simp
theorem dotL_take {a b : List UInt8} (h : a.length = b.length) {k : Nat} (hk : k < a.length) (hk' : k < b.length) : dotL (a.take (k + 1)) (b.take (k + 1)) = dotL (a.take k) (b.take k) ^^^ gm a[k] b[k] := by
  rw [List.take_succ_eq_append_getElem hk, List.take_succ_eq_append_getElem hk', dotL_snoc (by simp; omega)]
/-- a polynomial's value, from the highest coefficient down -/
def evL (l : List UInt8) (x : UInt8) : UInt8 := l.foldr (fun c v => gm v x ^^^ c) 0
theorem evL_nil (x : UInt8) : evL [] x = 0 := rfl
theorem evL_cons (c : UInt8) (l : List UInt8) (x : UInt8) : evL (c :: l) x = gm (evL l x) x ^^^ c := rfl
theorem evL_drop {l : List UInt8} {k : Nat} (h : k < l.length) (x : UInt8) : evL (l.drop k) x = gm (evL (l.drop (k + 1)) x) x ^^^ l[k] := by
  rw [List.drop_eq_getElem_cons h, evL_cons]
theorem xor_self8 (a : UInt8) : a ^^^ a = 0 := by simp
theorem xor_lc8 (a b c : UInt8) : a ^^^ (b ^^^ c) = b ^^^ (a ^^^ c) := by rw [← UInt8.xor_assoc, UInt8.xor_comm a b, UInt8.xor_assoc]
theorem evL_snoc (l : List UInt8) (c x : UInt8) : evL (l ++ [c]) x = evL l x ^^^ gm c (gpow x l.length) := by
  induction l with
  | nil => simp [evL, gm_zero_left, gpow, gm_one]
  | cons d l ih =>
    rw [List.cons_append, evL_cons, evL_cons, ih, gm_add_left, List.length_cons, gpow, gm_assoc, UInt8.xor_assoc, UInt8.xor_assoc, UInt8.xor_comm d]
theorem evL_take {l : List UInt8} {k : Nat} (h : k < l.length) (x : UInt8) : evL (l.take (k + 1)) x = evL (l.take k) x ^^^ gm l[k] (gpow x k) := by
  rw [List.take_succ_eq_append_getElem h, evL_snoc, List.length_take, Nat.min_eq_left (by omega)]

end Go.Proofs.Ytfikeilpgnahkaa
