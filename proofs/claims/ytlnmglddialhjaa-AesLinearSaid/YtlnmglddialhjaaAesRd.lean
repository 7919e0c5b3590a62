/- Arrays of bytes, and arrays of such, that came in. -/
import Derived.Test.YtlnmglddialhjaaRead
import Derived.Test.YtlnmglddialhjaaAesSt
namespace Go.Proofs.Ytlnmglddialhjaa
open Go.ChangeShapes Go.WideShapes Go.ChangeAt Go.RowKit

section
variable {H : Type} {enc : TypeId × Value → H} {P : Program} {w : World} {base : Nat} {spare : Nat → Bool} {held : Bool}
theorem okWide_array {r : Reach} {b0 n : Nat} {t e : TypeId} {v : Value} (ht : P.underlying t = some (.array n e)) (h : Value.okWide P w r b0 t v) : ∃ cs, v = .agg cs ∧ cs.size = P.cellsOf t := by
  simp only [Value.okWide, ht] at h
  obtain ⟨cs, h1, h2, _⟩ := h
  exact ⟨cs, h1, h2⟩
theorem allb_list {cs : List Value} (h : ∀ v ∈ cs, ∃ b : UInt8, v = bval b) : ∃ l : List UInt8, cs = l.map bval := by
  induction cs with
  | nil => exact ⟨[], rfl⟩
  | cons v cs ih =>
    obtain ⟨b, rfl⟩ := h v (by simp)
    obtain ⟨l, rfl⟩ := ih (fun u hu => h u (by simp [hu]))
    exact ⟨b :: l, rfl⟩
theorem allb_one {n : Nat} {t e : TypeId} {fuel : Nat} {cs : List Value} {x : DataW H × List MemPlace} (ht : P.underlying t = some (.array n e)) (he : P.underlying e = some (.int .u8)) (hce : P.cellsOf e = 1) (hC : P.cellsOf t = n)
    (h : DataW.trod enc P w base spare held fuel t cs = some x) : ∀ v ∈ cs, ∃ b : UInt8, v = bval b := by
  intro v hv
  obtain ⟨xs, m, _, _, hl, hxl, hi⟩ := DataW.trod_array ht h
  obtain ⟨i, hil, rfl⟩ := List.getElem_of_mem hv
  have h1 := hi i (by omega)
  rw [hce, Nat.mul_one, List.drop_eq_getElem_cons hil, List.getElem?_eq_getElem (by omega)] at h1
  have h2 : DataW.trod enc P w base spare held m e [cs[i]] = some (xs[i]'(by omega)) := h1
  obtain ⟨a, ea, _, wa⟩ := DataW.trod_int he h2
  obtain ⟨b, rfl⟩ := byte_of_wf wa
  injection ea with ea
  exact ⟨b, ea⟩
theorem allb_two {n k : Nat} {t e f : TypeId} {fuel : Nat} {cs : List Value} {x : DataW H × List MemPlace} (ht : P.underlying t = some (.array n e)) (he : P.underlying e = some (.array k f)) (hf : P.underlying f = some (.int .u8)) (hcf : P.cellsOf f = 1) (hce : P.cellsOf e = k) (hC : P.cellsOf t = n * k) (hk : 0 < k)
    (h : DataW.trod enc P w base spare held fuel t cs = some x) : ∀ v ∈ cs, ∃ b : UInt8, v = bval b := by
  intro v hv
  obtain ⟨xs, m, _, _, hl, hxl, hi⟩ := DataW.trod_array ht h
  obtain ⟨i, hil, rfl⟩ := List.getElem_of_mem hv
  have hin : i / k < n := by rw [Nat.div_lt_iff_lt_mul hk]; omega
  have h1 := hi (i / k) hin
  rw [hce, List.getElem?_eq_getElem (by omega)] at h1
  refine allb_one he hf hcf hce h1 _ ?_
  rw [List.mem_iff_getElem?]
  refine ⟨i % k, ?_⟩
  rw [List.getElem?_take, if_pos (Nat.mod_lt _ hk), List.getElem?_drop, Nat.mul_comm, Nat.div_add_mod, List.getElem?_eq_getElem hil]
theorem open_b1 {r : Reach} {b0 n : Nat} {t e : TypeId} {v : Value} {d : DataW H} {p : List MemPlace} (ht : P.underlying t = some (.array n e)) (he : P.underlying e = some (.int .u8)) (hce : P.cellsOf e = 1) (hC : P.cellsOf t = n)
    (hv : Value.okWide P w r b0 t v) (h : DataW.Trod enc P w base spare held t v d p) : ∃ l : List UInt8, l.length = n ∧ v = aggB l := by
  obtain ⟨cs, rfl, hs⟩ := okWide_array ht hv
  obtain ⟨fuel, hf⟩ := h
  obtain ⟨l, hl⟩ := allb_list (allb_one ht he hce hC hf)
  have hl' : cs.toList = l.map bval := hl
  refine ⟨l, ?_, ?_⟩
  · have := congrArg List.length hl'
    simp at this
    omega
  · unfold aggB cellsB
    rw [← hl']
theorem open_b2 {r : Reach} {b0 n k : Nat} {t e f : TypeId} {v : Value} {d : DataW H} {p : List MemPlace} (ht : P.underlying t = some (.array n e)) (he : P.underlying e = some (.array k f)) (hf : P.underlying f = some (.int .u8)) (hcf : P.cellsOf f = 1) (hce : P.cellsOf e = k) (hC : P.cellsOf t = n * k) (hk : 0 < k)
    (hv : Value.okWide P w r b0 t v) (h : DataW.Trod enc P w base spare held t v d p) : ∃ l : List UInt8, l.length = n * k ∧ v = aggB l := by
  obtain ⟨cs, rfl, hs⟩ := okWide_array ht hv
  obtain ⟨fuel, hf'⟩ := h
  obtain ⟨l, hl⟩ := allb_list (allb_two ht he hf hcf hce hC hk hf')
  have hl' : cs.toList = l.map bval := hl
  refine ⟨l, ?_, ?_⟩
  · have := congrArg List.length hl'
    simp at this
    omega
  · unfold aggB cellsB
    rw [← hl']
end

end Go.Proofs.Ytlnmglddialhjaa
