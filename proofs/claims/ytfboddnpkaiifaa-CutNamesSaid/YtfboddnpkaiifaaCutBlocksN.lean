/- cut.Blocks of every segment and number. -/
import Derived.Test.YtfboddnpkaiifaaCutBlocks
namespace Go.Proofs.Ytfboddnpkaiifaa
open Go.RowKit

theorem bk_3 {k : Int} {z : Nat} (h : k < 1 ∨ 255 < k) : bkE k z = 3 := if_pos h
theorem bk_91 {k : Int} {z : Nat} (h : ¬ (k < 1 ∨ 255 < k)) (h2 : z = 0 ∨ k.toNat * upN 65536 k.toNat < z) : bkE k z = 91 := by unfold bkE; rw [if_neg h, if_pos h2]
theorem bk_0 {k : Int} {z : Nat} (h : ¬ (k < 1 ∨ 255 < k)) (h2 : ¬ (z = 0 ∨ k.toNat * upN 65536 k.toNat < z)) : bkE k z = 0 := by unfold bkE; rw [if_neg h, if_neg h2]
theorem bkR_no {l : List UInt8} {k : Int} {e : Nat} (h : bkE k l.length = e) (he : e ≠ 0) : bkR l k = [] := by unfold bkR; rw [h, if_neg he]

set_option maxRecDepth 100000 in
set_option maxHeartbeats 2000000 in
theorem blocks_n (a : Option Addr) (c n : Nat) (k : Int) (l : List UInt8) (w : World) (ha : BLies w a l) (hl : l.length = n) (hc : n ≤ c) :
    Calls Try.prog 15 #[.slice a n c, .int .i64 k] w fun e w' => (∃ a' m c', e = .returned (.tuple #[.slice a' m c', .int .i64 (bkE k n : Nat)]) ∧ LOwn w' w.heap.size a' m c' (bkR l k)) ∧ w.grownBy w' none := by
  by_cases h1 : k < 1
  · have hE := bk_3 (k := k) (z := n) (.inl h1)
    rw [bkR_no (hl.symm ▸ hE) (by decide), hE]
    clear hE ha hl
    go_enter Try.func15, Try.ntmps15
    go_wp2_with fail
    refine bodyPost_ret (by simp [*, results, Try.results15, go_sem]; try rfl) rfl ?_
    exact ⟨⟨none, 0, 0, rfl, LOwn.nil _ _⟩, World.grownBy.refl _ _⟩
  by_cases h2 : 255 < k
  · have hE := bk_3 (k := k) (z := n) (.inr h2)
    rw [bkR_no (hl.symm ▸ hE) (by decide), hE]
    clear hE ha hl
    go_enter Try.func15, Try.ntmps15
    go_wp2_with fail
    refine bodyPost_ret (by simp [*, results, Try.results15, go_sem]; try rfl) rfl ?_
    exact ⟨⟨none, 0, 0, rfl, LOwn.nil _ _⟩, World.grownBy.refl _ _⟩
  have h12 : ¬ (k < 1 ∨ 255 < k) := by omega
  by_cases h3 : n = 0
  · have hE := bk_91 (k := k) (z := n) h12 (.inl h3)
    rw [bkR_no (hl.symm ▸ hE) (by decide), hE]
    clear hE ha hl h12
    subst h3
    go_enter Try.func15, Try.ntmps15
    go_wp2_with fail
    refine bodyPost_ret (by simp [*, results, Try.results15, go_sem]; try rfl) rfl ?_
    exact ⟨⟨none, 0, 0, rfl, LOwn.nil _ _⟩, World.grownBy.refl _ _⟩
  obtain ⟨K, rfl⟩ : ∃ K : Nat, k = (K : Int) := ⟨k.toNat, by omega⟩
  have k1 : 1 ≤ K := by omega
  have k2 : K ≤ 255 := by omega
  by_cases h4 : K * upN 65536 K < n
  · have hE := bk_91 (k := (K : Int)) (z := n) h12 (.inr (by simpa using h4))
    rw [bkR_no (hl.symm ▸ hE) (by decide), hE]
    have hup : ∀ w, Calls Try.prog 51 #[.int .i64 65536, .int .i64 K] w fun e w' => e = .returned (.int .i64 (upN 65536 K : Nat)) ∧ w = w' := fun w => up_n 65536 K w (by omega) k1 (by omega)
    obtain ⟨U, hU⟩ : ∃ U, U = upN 65536 K := ⟨_, rfl⟩
    have hUl : U ≤ 65536 := by rw [hU]; exact upN_small k1
    rw [← hU] at h4 hup
    have HU := Lib.hid hup
    obtain ⟨M, hM⟩ : ∃ M, M = K * U := ⟨_, rfl⟩
    have hM2 : M ≤ 255 * 65536 := by rw [hM]; exact Nat.mul_le_mul k2 hUl
    have wU : IntKind.i64.wrap ((K : Int) * (U : Int)) = (M : Int) := by rw [hM]; rw [show ((K : Int) * (U : Int)) = ((K * U : Nat) : Int) by simp]; rw [← hM]; exact i64_nat _ (by omega)
    rw [← hM] at h4
    have hn1 : 1 ≤ n := by omega
    clear hE ha hl h12 hU hup hM h3 h1 h2
    go_enter Try.func15, Try.ntmps15
    go_wp2_with fail
    refine (HU.out _).mono ?_
    rintro e w' ⟨rfl, rfl⟩
    go_wp2_with fail
    refine bodyPost_ret (by simp [*, results, Try.results15, go_sem]; try rfl) rfl ?_
    exact ⟨⟨none, 0, 0, rfl, LOwn.nil _ _⟩, World.grownBy.refl _ _⟩
  · have hE := bk_0 (k := (K : Int)) (z := n) h12 (by simp only [Int.toNat_natCast]; omega)
    have hR : bkR l (K : Int) = (List.range K).map (bkB l K (upN n K)) := by
      unfold bkR bkL
      rw [hl, hE, if_pos rfl, Int.toNat_natCast]
    rw [hR, hE]
    refine (blocks_ok a c n K (upN 65536 K) (upN n K) l w ha hl hc (bk_num k1 k2 (by omega) (by omega)) rfl rfl).mono ?_
    rintro e w' ⟨⟨a', c', rfl, h⟩, hg⟩
    exact ⟨⟨a', K, c', rfl, h⟩, hg⟩

end Go.Proofs.Ytfboddnpkaiifaa
