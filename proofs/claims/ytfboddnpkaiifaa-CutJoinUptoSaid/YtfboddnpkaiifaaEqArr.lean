/- Arrays of bytes (and arrays of such) are compared cell by cell. No walk. -/
import Derived.Test.YtfboddnpkaiifaaBase
import Derived.DeepKeys
namespace Go.Proofs.Ytfboddnpkaiifaa
open Go.RowKit

def litB (x : UInt8) : Lit := .int .u8 (x.toNat : Int)
theorem litB_inj {a b : List UInt8} : a.map litB = b.map litB ↔ a = b := by
  constructor
  · intro h
    induction a generalizing b with
    | nil => cases b <;> simp_all
    | cons x a ih =>
      cases b with
      | nil => simp at h
      | cons y b =>
        simp only [List.map_cons, List.cons.injEq] at h
        obtain ⟨h1, h2⟩ := h
        unfold litB at h1
        injection h1 with _ h1
        have hxy : x = y := UInt8.toNat_inj.1 (by omega)
        rw [ih h2, hxy]
  · rintro rfl; rfl

theorem mapM_some {α β : Type} (f : α → Option β) (g : α → β) : ∀ (xs : List α), (∀ x ∈ xs, f x = some (g x)) → xs.mapM f = some (xs.map g)
  | [], _ => rfl
  | x :: xs, h => by
    rw [List.mapM_cons, h x (by simp), mapM_some f g xs (fun y hy => h y (by simp [hy]))]
    rfl

theorem flatten_parts {α : Type} (k : Nat) : ∀ (n : Nat) (L : List α), L.length = n * k → ((List.range n).map fun i => (L.drop (i * k)).take k).flatten = L
  | 0, L, h => by simp at h; simp [h]
  | n + 1, L, h => by
    rw [List.range_succ_eq_map, List.map_cons, List.flatten_cons, List.map_map]
    have e : ((List.range n).map ((fun i => (L.drop (i * k)).take k) ∘ Nat.succ)) = (List.range n).map fun i => ((L.drop k).drop (i * k)).take k := by
      apply List.map_congr_left
      intro i _
      simp only [Function.comp, List.drop_drop, Nat.succ_eq_add_one, Nat.add_mul, Nat.one_mul]
      rw [Nat.add_comm]
    rw [e, flatten_parts k n (L.drop k) (by rw [List.length_drop, h, Nat.add_mul]; omega)]
    simp

section
variable {P : Program}
theorem lits_arr {t e : TypeId} {n k D : Nat} (hu : P.underlying t = some (.array n e)) (hc : P.cellsOf t = n * k) (he : P.cellsOf e = k) (l : List UInt8) (hl : l.length = n * k)
    (h : ∀ m : List UInt8, m.length = k → P.keyLits D e (m.map bval) = some (m.map litB)) : P.keyLits (D + 1) t (l.map bval) = some (l.map litB) := by
  unfold Program.keyLits
  rw [hu]
  show (if (l.map bval).length = P.cellsOf t then Option.map List.flatten (List.mapM (fun i => P.keyLits D e (List.take (P.cellsOf e) (List.drop (i * P.cellsOf e) (l.map bval)))) (List.range n)) else none) = _
  rw [he, hc]
  simp only [List.length_map, hl, if_true]
  rw [mapM_some _ (fun i => ((l.map litB).drop (i * k)).take k)]
  · rw [Option.map_some, flatten_parts k n _ (by rw [List.length_map, hl])]
  · intro i hi
    have hi' : i < n := by simpa using hi
    rw [← List.map_drop, ← List.map_take, ← List.map_drop, ← List.map_take]
    refine h _ ?_
    rw [List.length_take, List.length_drop, hl]
    have : (i + 1) * k ≤ n * k := Nat.mul_le_mul_right k hi'
    rw [Nat.add_mul] at this
    omega

theorem lits_byte {e : TypeId} {D : Nat} (hu : P.underlying e = some (.int .u8)) (m : List UInt8) (hm : m.length = 1) : P.keyLits (D + 1) e (m.map bval) = some (m.map litB) := by
  obtain ⟨x, rfl⟩ : ∃ x, m = [x] := by
    match m, hm with
    | [x], _ => exact ⟨x, rfl⟩
  have := x.toNat_lt
  unfold Program.keyLits
  rw [hu]
  have hw : (Lit.int .u8 (x.toNat : Int)).wf = true := by simp [Lit.wf, show IntKind.u8.min = 0 from rfl, show IntKind.u8.max = 255 from rfl]; omega
  simp [bval, litB, hw]

theorem eql_lits {t : TypeId} {m D : Nat} (hm : m ≤ 10000) (hk : P.keyTypeAt m t = true) {l r : List UInt8} (fl : (Value.agg (l.map bval).toArray).formed P t = true) (fr : (Value.agg (r.map bval).toArray).formed P t = true)
    (hl : P.keyLits D t (l.map bval) = some (l.map litB)) (hr : P.keyLits D t (r.map bval) = some (r.map litB)) (w : World) :
    (binOp .eql t (.agg (l.map bval).toArray) (.agg (r.map bval).toArray)).run P w = .ok (.bool (decide (l = r))) w ∧ (binOp .neq t (.agg (l.map bval).toArray) (.agg (r.map bval).toArray)).run P w = .ok (.bool (!decide (l = r))) w := by
  obtain ⟨b, hb, hiff⟩ := run_equalIn_deep (P := P) (10000 - m) m t hk w D D _ _ _ _ fl fr (by simpa [Value.cells] using hl) (by simpa [Value.cells] using hr)
  rw [show 10000 - m + m = 10000 by omega] at hb
  have e : b = decide (l = r) := by
    rw [litB_inj] at hiff
    by_cases h : l = r
    · simp [h, hiff.2 h]
    · have : b = false := by
        cases b
        · rfl
        · exact absurd (hiff.1 rfl) h
      simp [h, this]
  rw [run_eql_struct, run_neq_struct, hb, e]
  exact ⟨rfl, rfl⟩
end

end Go.Proofs.Ytfboddnpkaiifaa
