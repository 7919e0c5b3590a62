/- What cut.Blocks and cut.Join answer, in plain words. -/
import Derived.Test.YtfboddnpkaiifaaCutMath
namespace Go.Proofs.Ytfboddnpkaiifaa

/-- Blocks: the error's number -/
def bkE (k : Int) (z : Nat) : Nat := if k < 1 ∨ 255 < k then 3 else if z = 0 ∨ k.toNat * upN 65536 k.toNat < z then 91 else 0
/-- Blocks: block i of q bytes each -/
def bkB (l : List UInt8) (k q i : Nat) : List UInt8 := ((l ++ List.replicate (k * q - l.length) 0).drop (i * q)).take q
def bkL (l : List UInt8) (k : Nat) : List (List UInt8) := (List.range k).map (bkB l k (upN l.length k))
def bkR (l : List UInt8) (k : Int) : List (List UInt8) := if bkE k l.length = 0 then bkL l k.toNat else []

/-- Join: the error's number, the bytes -/
def jnOk (bs : List (List UInt8)) (z : Int) : Prop := 1 ≤ bs.length ∧ bs.length ≤ 255 ∧ 1 ≤ z ∧ z ≤ ((bs.length * upN 65536 bs.length : Nat) : Int) ∧ ∀ b ∈ bs, b.length = upN z.toNat bs.length
instance (bs : List (List UInt8)) (z : Int) : Decidable (jnOk bs z) := by unfold jnOk; infer_instance
def jnE (bs : List (List UInt8)) (z : Int) : Nat := if jnOk bs z then 0 else 91
def jnR (bs : List (List UInt8)) (z : Int) : List UInt8 := if jnOk bs z then bs.flatten.take z.toNat else []

structure BkN (k n U q : Nat) : Prop where
  k1 : 1 ≤ k
  k2 : k ≤ 255
  n1 : 1 ≤ n
  nU : n ≤ k * U
  U1 : U ≤ 65536
  kU : k * U ≤ 65800
  q1 : 1 ≤ q
  qn : q ≤ n
  kq : n ≤ k * q
  kq2 : k * q < n + k
theorem bk_num {k n : Nat} (k1 : 1 ≤ k) (k2 : k ≤ 255) (n1 : 1 ≤ n) (nU : n ≤ k * upN 65536 k) : BkN k n (upN 65536 k) (upN n k) := by
  have h1 := upN_lt (a := 65536) (b := k) k1
  have h2 := le_upN (a := n) (b := k) k1
  have h3 := upN_lt (a := n) (b := k) k1
  have c1 : upN 65536 k * k = k * upN 65536 k := Nat.mul_comm _ _
  have c2 : upN n k * k = k * upN n k := Nat.mul_comm _ _
  exact ⟨k1, k2, n1, nU, upN_small k1, by omega, upN_pos n1 k1, upN_small k1, by omega, by omega⟩

end Go.Proofs.Ytfboddnpkaiifaa
