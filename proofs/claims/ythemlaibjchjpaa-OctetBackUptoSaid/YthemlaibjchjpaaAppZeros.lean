/- append of made zeros to a row that the call owns. -/
import Derived.Test.YthemlaibjchjpaaOwn
import Derived.Lib.AppendZerosOnto
namespace Go.Proofs.Ythemlaibjchjpaa
open Go.RowKit

section
variable {P : Program}

theorem zero_cells_one (z : Value) (k : Nat) : Builtin.zeroCells #[z] k = (List.replicate k z).toArray := by
  apply Array.toList_inj.1
  simp [Builtin.zeroCells]
  apply List.ext_getElem
  · simp
  · intro i h1 h2
    simp [Nat.mod_one]

theorem firstCells_own (w : World) {e : TypeId} {base : Nat} {a : Option Addr} {n c : Nat} {xs : List Value} (hown : Own w base e 1 a n c xs) : (Builtin.firstCells 1 n (.slice a n c)).run P w.drew = .ok xs.toArray w.drew := by
  rcases hown.2 with ⟨rfl, rfl⟩ | ⟨g, cur, rfl, hbg, hg, hnc, hcm, hcs, htake⟩
  · have hx : xs = [] := List.eq_nil_of_length_eq_zero (by simpa using hown.1)
    subst hx
    cases a with
    | none => exact run_firstCells_none ..
    | some ad => exact run_firstCells_some (P := P) w.drew 1 0 ad 0 0 [] (by simp) (by simp)
  · exact run_firstCells_some (P := P) w.drew 1 n ⟨g, 0, none⟩ n c xs (by simpa using hown.1) (by
      intro j u hu
      have hadd : (⟨g, 0, none⟩ : Addr).add j = ⟨g, j, none⟩ := by unfold Addr.add; split <;> simp_all
      obtain ⟨hj, rfl⟩ := List.getElem?_eq_some_iff.1 hu
      obtain ⟨g', e1, _, _, hc, _⟩ := hown.cell j hj
      obtain rfl : g = g' := by simpa using e1
      rw [hadd]; exact hc)

theorem run_appz (w : World) {t tn ty e : TypeId} {z : Value} {bytes : Nat} (H : El P t e z 1 bytes) (hz1 : z.cells = #[z]) (ho1 : z.oneCell' = true) {kn : IntKind} (htn : P.underlying tn = some (.int kn)) {base : Nat} {a : Option Addr} {n c : Nat} {xs : List Value} (hown : Own w base e 1 a n c xs)
    (k : Nat) (hk : 0 < k) (h63 : n + k ≤ maxLen) (hbytes : (n + k) * bytes ≤ 140737488355328) (hbase : base ≤ w.heap.size) (kq : IntKind) :
    ∃ g c' w1, (Builtin.append_ #[t, tn] ty #[.slice a n c, .int kq k]).run P w = .ok (.slice (some ⟨g, 0, none⟩) (n + k) c') w1 ∧ Own w1 base e 1 (some ⟨g, 0, none⟩) (n + k) c' (xs ++ List.replicate k z) ∧ GrewP w w1 a c (some ⟨g, 0, none⟩) c' := by
  obtain ⟨ht, ⟨i, hi, hz, hs1, rfl⟩, hzs, hsz⟩ := H
  have hsmall : n + k ≤ 9223372036854775807 := by simp only [maxLen] at h63; omega
  have hxl : xs.length = n := by simpa using hown.1
  have hlen : (xs ++ List.replicate k z).length = (n + k) * 1 := by simp [hxl]
  have hkb : k * i.bytes ≤ 281474976710656 := by have : k * i.bytes ≤ (n + k) * i.bytes := Nat.mul_le_mul_right _ (by omega); omega
  by_cases hroom : n + k ≤ c
  · rcases hown.2 with ⟨rfl, rfl⟩ | ⟨g, cur, rfl, hbg, hg, hnc, hcm, hcs, htake⟩
    · omega
    · have hrl : (List.replicate k z).length = k := by simp
      have hst := run_storeCells_at (P := P) g n e (List.replicate k z) 0 cur w hg (by simp; omega) (by intro v hv; rw [List.eq_of_mem_replicate hv]; exact ho1)
      simp only [Nat.add_zero, hrl] at hst
      have hw : IntKind.i64.wrap (k : Int) = k := by rw [IntKind.wrap_i64]; omega
      have hneg : ¬ ((k : Int) < 0) := by omega
      have hadd : (⟨g, 0, none⟩ : Addr).add n = ⟨g, n, none⟩ := by unfold Addr.add; split <;> simp_all
      have h48i : ¬ (281474976710656 < (k : Int) * (i.bytes : Int)) := by rw [← Int.natCast_mul]; omega
      have hk0 : k ≠ 0 := by omega
      have hr : (Builtin.append_ #[t, tn] ty #[.slice (some ⟨g, 0, none⟩) n c, .int kq k]).run P w = .ok (.slice (some ⟨g, 0, none⟩) (n + k) c) (w.setRow g (cur.toList.take n ++ List.replicate k z ++ cur.toList.drop (n + k)).toArray) := by
        simp [Builtin.append_, run_underlying ht, run_underlying htn, sizeOf, typeInfo, zeroValue, hi, hz, hz1, hs1, asInt, asIntOf, hw, hneg, h48i, hroom, hk0, zero_cells_one, hadd, hst]
      refine ⟨_, _, _, hr, ⟨hlen, .inr ⟨g, _, rfl, hbg, setRow_heap w g cur _ e _ hg, hroom, hcm, ?_, ?_⟩⟩, .inl ⟨g, rfl, rfl, by omega, rfl, ⟨rfl, rfl, rfl, by simp, fun k _ hk => setRow_other w g k _ (fun e => hk (by simp [e]))⟩⟩⟩
      · simp
        omega
      · have ht' : List.take n cur.toList = xs := by rw [← htake, Nat.mul_one]
        rw [ht', ← hlen]
        exact List.take_left
  · have hr := Lib.run_append_grow_zeros (P := P) w t tn ty e i z kq kn ht htn hi hz a n c xs (by rw [hs1]; exact firstCells_own w hown) k hk (by omega) (by omega) (by omega) hkb (growslice_fits (by omega) hbytes)
    have hge := grownCap_ge w (n + k) c e
    have hcm : grownCap w (n + k) c e ≤ maxLen := grownCap_le_maxLen w (n + k) c e h63
    refine ⟨_, _, _, hr, ⟨hlen, .inr ⟨w.heap.size, _, rfl, hbase, heap_alloc_new w.drew _, hge, hcm, ?_, ?_⟩⟩, .inr ⟨_, rfl, Nat.le_refl _, ⟨rfl, rfl, rfl, by simp, fun k hk _ => Below.heap_alloc w.drew _ k hk⟩⟩⟩
    · rw [hz1, zero_cells_one, zero_cells_one]
      simp [hxl]
      omega
    · rw [hz1, zero_cells_one, zero_cells_one]
      simp only [Array.toList_append, ← hlen]
      exact List.take_left

end

end Go.Proofs.Ythemlaibjchjpaa
