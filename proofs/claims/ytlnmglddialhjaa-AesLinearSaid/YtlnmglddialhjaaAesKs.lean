/- aes: the schedule, in plain Lean; rows written into the middle of a block. -/
import Derived.Test.YtlnmglddialhjaaAesSubs
import Derived.Test.YtlnmglddialhjaaAesEq
namespace Go.Proofs.Ytlnmglddialhjaa
open Go.RowKit

def ax8' (p : UInt8) : UInt8 := UInt8.ofNat (ax p.toNat)
theorem ax8_nat (p : UInt8) : (ax8' p).toNat = ax p.toNat := by
  unfold ax8'
  rw [UInt8.toNat_ofNat', Nat.mod_eq_of_lt (ax_lt p.toNat_lt)]
/-- a row of bytes written from o on -/
def spl (l : List UInt8) (o : Nat) : List UInt8 → List UInt8
  | [] => l
  | x :: r => spl (l.set o x) (o + 1) r
theorem spl_len : ∀ (m : List UInt8) (l : List UInt8) (o : Nat), (spl l o m).length = l.length
  | [], _, _ => rfl
  | x :: r, l, o => by rw [spl, spl_len r]; simp
theorem Blk.spl : ∀ (m : List UInt8) {w : World} {g o : Nat} {t : TypeId} {l : List UInt8}, Blk w g t l → Blk (w.setCells g o (m.map bval)) g t (spl l o m)
  | [], _, _, _, _, _, h => h
  | x :: r, _, _, o, _, _, h => Blk.spl r (h.set o x)
theorem Blk.splNe : ∀ (m : List Value) {w : World} {g g' o : Nat} {t : TypeId} {l : List UInt8}, Blk w g t l → g ≠ g' → Blk (w.setCells g' o m) g t l
  | [], _, _, _, _, _, _, h, _ => h
  | _ :: r, _, _, _, _, _, _, h, hne => Blk.splNe r (h.other hne) hne
theorem grownBy_spl (g : Nat) : ∀ (xs : List Value) (o : Nat) (w : World), w.grownBy (w.setCells g o xs) (some g)
  | [], _, _ => World.grownBy.refl _ _
  | v :: r, o, w => grownBy_trans (grownBy_setCell w g o v) (grownBy_spl g r (o + 1) _)
theorem range_other {w w' : World} {b o g : Nat} {cs : List Value} (h : w.rangeAt b o cs) (hg : w.grownBy w' (some g)) (hne : b ≠ g) : w'.rangeAt b o cs := fun j v hj =>
  (World.cell?_of_block (hg.block _ (World.block_lt_of_cell? w _ (h j v hj)) (by simpa using hne))).trans (h j v hj)
theorem Blk.there {w : World} {g o n : Nat} {t : TypeId} {l : List UInt8} (h : Blk w g t l) (hn : o + n ≤ l.length) : w.there g o n := fun j hj => by
  rw [h.cell _ rfl (o + j) (by omega)]
  exact ⟨rfl, h.free _⟩
/-- four bytes from o on -/
def at4 (l : List UInt8) (o : Nat) : List UInt8 := [l.getD o 0, l.getD (o + 1) 0, l.getD (o + 2) 0, l.getD (o + 3) 0]
theorem Blk.at4 {w : World} {g o : Nat} {t : TypeId} {l : List UInt8} (h : Blk w g t l) (hn : o + 4 ≤ l.length) : w.rangeAt g o ((at4 l o).map bval) := by
  intro j v hj
  match j, hj with
  | 0, hj => simp [Go.Proofs.Ytlnmglddialhjaa.at4] at hj; subst hj; rw [h.cell _ rfl _ (by omega)]; simp [bval]
  | 1, hj => simp [Go.Proofs.Ytlnmglddialhjaa.at4] at hj; subst hj; rw [h.cell _ rfl _ (by omega)]; simp [bval]
  | 2, hj => simp [Go.Proofs.Ytlnmglddialhjaa.at4] at hj; subst hj; rw [h.cell _ rfl _ (by omega)]; simp [bval]
  | 3, hj => simp [Go.Proofs.Ytlnmglddialhjaa.at4] at hj; subst hj; rw [h.cell _ rfl _ (by omega)]; simp [bval]
  | j + 4, hj => simp [Go.Proofs.Ytlnmglddialhjaa.at4] at hj

def z176 : List UInt8 := List.replicate 176 0
theorem z176_len : z176.length = 176 := by unfold z176; exact List.length_replicate ..
/-- the key laid at the head -/
def kwF (k : List UInt8) (i : Nat) (o : List UInt8) : List UInt8 := spl o (i * 4) (at4 k (4 * i))
theorem kwF_len (k : List UInt8) : ∀ i o, (kwF k i o).length = o.length := fun i o => spl_len _ _ _
def kw (k z : List UInt8) : List UInt8 := iterU (kwF k) z 4
theorem kw_len (k z : List UInt8) : (kw k z).length = z.length := iterU_len (kwF_len k) 4
/-- the word that goes in -/
def ksT (o : List UInt8) (p : UInt8) (i : Nat) : List UInt8 :=
  if i % 4 = 0 then [asub (o.getD ((i - 1) * 4 + 1) 0) ^^^ p, asub (o.getD ((i - 1) * 4 + 2) 0), asub (o.getD ((i - 1) * 4 + 3) 0), asub (o.getD ((i - 1) * 4) 0)] else at4 o ((i - 1) * 4)
theorem ksT_len (o : List UInt8) (p : UInt8) (i : Nat) : (ksT o p i).length = 4 := by unfold ksT; split <;> rfl
def inF (i : Nat) (t : List UInt8) (n : Nat) (o : List UInt8) : List UInt8 := o.set (i * 4 + n) (o.getD ((i - 4) * 4 + n) 0 ^^^ t.getD n 0)
theorem inF_len (i : Nat) (t : List UInt8) : ∀ n o, (inF i t n o).length = o.length := fun n o => by simp [inF]
def ksStep (i : Nat) (s : List UInt8 × UInt8) : List UInt8 × UInt8 := (iterU (inF i (ksT s.1 s.2 i)) s.1 4, if i % 4 = 0 then ax8' s.2 else s.2)
def ksn (s : List UInt8 × UInt8) : Nat → List UInt8 × UInt8
  | 0 => s
  | n + 1 => ksStep (n + 4) (ksn s n)
theorem ksn_len (s : List UInt8 × UInt8) : ∀ n, (ksn s n).1.length = s.1.length
  | 0 => rfl
  | n + 1 => (iterU_len (inF_len _ _) 4).trans (ksn_len s n)
def ks (k z : List UInt8) (i : Nat) : List UInt8 × UInt8 := ksn (kw k z, 1) (i - 4)
theorem ksn_zero (s : List UInt8 × UInt8) : ksn s 0 = s := rfl
theorem ks_four (k z : List UInt8) : ks k z 4 = (kw k z, 1) := ksn_zero _
theorem ks_four1 (k z : List UInt8) : (ks k z 4).1 = kw k z := by rw [ks_four]
theorem ks_four2 (k z : List UInt8) : (ks k z 4).2 = 1 := by rw [ks_four]
theorem ksn_succ (s : List UInt8 × UInt8) {i : Nat} (h : 4 ≤ i) : ksn s (i + 1 - 4) = ksStep i (ksn s (i - 4)) := by
  obtain ⟨n, rfl⟩ : ∃ n, i = n + 4 := ⟨i - 4, by omega⟩
  rw [show n + 4 + 1 - 4 = n + 1 by omega, show n + 4 - 4 = n by omega]
  rfl
theorem ks_succ (k z : List UInt8) {i : Nat} (h : 4 ≤ i) : ks k z (i + 1) = ksStep i (ks k z i) := ksn_succ _ h
theorem ks_len (k z : List UInt8) (hz : z.length = 176) (i : Nat) : (ks k z i).1.length = 176 := (ksn_len _ _).trans ((kw_len k z).trans hz)
def keysL (k : List UInt8) : List UInt8 := (ks k z176 44).1
theorem keysL_len (k : List UInt8) : (keysL k).length = 176 := ks_len k z176 z176_len 44
/-- the words copied out -/
def cpF (l : List UInt8) (i : Nat) (o : List UInt8) : List UInt8 := spl o (i / 4 * 16 + 4 * (i % 4)) (at4 l (i * 4))
theorem cpF_len (l : List UInt8) : ∀ i o, (cpF l i o).length = o.length := fun i o => spl_len _ _ _
theorem spl_app : ∀ (m a b c : List UInt8), b.length = m.length → spl (a ++ b ++ c) a.length m = a ++ m ++ c
  | [], a, b, c, h => by simp at h; subst h; simp [spl]
  | x :: m, a, [], c, h => by simp at h
  | x :: m, a, y :: b, c, h => by
    simp at h
    have e : (a ++ y :: b ++ c).set a.length x = (a ++ [x]) ++ b ++ c := by simp
    rw [spl, e, show a.length + 1 = (a ++ [x]).length by simp, spl_app m (a ++ [x]) b c h]
    simp
theorem at4_eq {l : List UInt8} {o : Nat} (h : o + 4 ≤ l.length) : at4 l o = (l.drop o).take 4 := by
  have e : (l.drop o).take 4 = [l[o], l[o + 1], l[o + 2], l[o + 3]] := by
    rw [List.drop_eq_getElem_cons (show o < l.length by omega), List.drop_eq_getElem_cons (show o + 1 < l.length by omega), List.drop_eq_getElem_cons (show o + 1 + 1 < l.length by omega), List.drop_eq_getElem_cons (show o + 1 + 1 + 1 < l.length by omega)]
    rfl
  rw [e]
  simp [at4, List.getD, List.getElem?_eq_getElem (show o < l.length by omega), List.getElem?_eq_getElem (show o + 1 < l.length by omega), List.getElem?_eq_getElem (show o + 2 < l.length by omega), List.getElem?_eq_getElem (show o + 3 < l.length by omega)]
theorem cp_some {l z : List UInt8} (hl : l.length = 176) (hz : z.length = 176) : ∀ i, i ≤ 44 → iterU (cpF l) z i = l.take (i * 4) ++ z.drop (i * 4)
  | 0, _ => by simp [iterU]
  | i + 1, h => by
    have ih := cp_some hl hz i (by omega)
    show cpF l i (iterU (cpF l) z i) = _
    rw [ih]
    unfold cpF
    rw [at4_eq (by omega)]
    have h1 : i / 4 * 16 + 4 * (i % 4) = (l.take (i * 4)).length := by simp; omega
    have h2 : z.drop (i * 4) = (z.drop (i * 4)).take 4 ++ z.drop ((i + 1) * 4) := by
      rw [show (i + 1) * 4 = i * 4 + 4 by omega, ← List.drop_drop, List.take_append_drop]
    rw [h1, h2, ← List.append_assoc, spl_app _ _ _ _ (by rw [List.length_take, List.length_drop, List.length_take, List.length_drop, hz]; omega)]
    congr 1
    rw [show (i + 1) * 4 = i * 4 + 4 by omega, List.take_add]
theorem cp_end {l z : List UInt8} (hl : l.length = 176) (hz : z.length = 176) : iterU (cpF l) z 44 = l := by
  rw [cp_some hl hz 44 (by omega), List.take_of_length_le (by omega), List.drop_of_length_le (by rw [hz]; omega), List.append_nil]

end Go.Proofs.Ytlnmglddialhjaa
