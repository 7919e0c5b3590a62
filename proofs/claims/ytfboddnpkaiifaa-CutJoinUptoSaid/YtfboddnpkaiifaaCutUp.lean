/- cut: up, Check; the document's. -/
import Derived.Test.YtfboddnpkaiifaaCutMath
namespace Go.Proofs.Ytfboddnpkaiifaa
open Go.RowKit

/-- parameters as a value -/
def prV (k n seg happy : Int) (a : Option Addr) (ln c : Nat) : Value := .agg #[.int .i64 k, .int .i64 n, .int .i64 seg, .int .i64 happy, .slice a ln c]

theorem i64_nat (n : Nat) (h : n ≤ 4611686018427387904) : IntKind.i64.wrap (n : Int) = (n : Int) := IntWalk.i64_in _ (by omega)

set_option maxRecDepth 100000 in
set_option maxHeartbeats 1000000 in
theorem up_n (a b : Nat) (w : World) (ha : a ≤ 100000000) (hb1 : 1 ≤ b) (hb : b ≤ 100000000) :
    Calls Try.prog 51 #[.int .i64 a, .int .i64 b] w fun e w' => e = .returned (.int .i64 (upN a b : Nat)) ∧ w = w' := by
  have e1 : IntKind.i64.wrap ((a : Int) + b) = (a : Int) + b := IntWalk.i64_in _ (by omega)
  have e2 : IntKind.i64.wrap ((a : Int) + b - 1) = (a : Int) + b - 1 := IntWalk.i64_in _ (by omega)
  have e3 : ((a : Int) + b - 1).tdiv (b : Int) = (upN a b : Nat) := by
    unfold upN
    rw [show (a : Int) + b - 1 = ((a + b - 1 : Nat) : Int) by omega]
    rfl
  have e3' : ((a : Int) + b - 1) / (b : Int) = (upN a b : Nat) := by
    unfold upN
    rw [show (a : Int) + b - 1 = ((a + b - 1 : Nat) : Int) by omega]
    rfl
  have hu : upN a b ≤ a := upN_small hb1
  have e4 : IntKind.i64.wrap ((upN a b : Nat) : Int) = (upN a b : Nat) := i64_nat _ (by omega)
  have hb0 : ¬ ((b : Int) = 0) := by omega
  go_enter Try.func51, Try.ntmps51
  go_wp2_with fail
  go_ret
  exact ⟨rfl, rfl⟩

set_option maxRecDepth 100000 in
set_option maxHeartbeats 1000000 in
theorem refUp_n (a b : Nat) (w : World) (ha : a ≤ 100000000) (hb1 : 1 ≤ b) (hb : b ≤ 100000000) :
    Calls Try.prog 54 #[.int .i64 a, .int .i64 b] w fun e w' => e = .returned (.int .i64 (upN a b : Nat)) ∧ ∃ q, w' = w.drewN q := by
  obtain ⟨d, hd⟩ : ∃ d, d = a / b := ⟨_, rfl⟩
  obtain ⟨m, hm⟩ : ∃ m, m = a % b := ⟨_, rfl⟩
  obtain ⟨t, ht⟩ : ∃ t, t = (m + b - 1) / b := ⟨_, rfl⟩
  have hm1 : m < b := by subst hm; exact Nat.mod_lt a (by omega)
  have hd1 : d ≤ a := by subst hd; exact Nat.div_le_self _ _
  have ht1 : t ≤ m + b - 1 := by subst ht; exact Nat.div_le_self _ _
  have hsum : upN a b = d + t := by subst hd; subst ht; subst hm; exact (upN_other hb1).symm
  have e0 : (a : Int).tdiv (b : Int) = (d : Int) := by subst hd; rfl
  have e1 : (a : Int).tmod (b : Int) = (m : Int) := by subst hm; rfl
  have f0 : IntKind.i64.wrap ((a : Int).tdiv (b : Int)) = (d : Int) := by rw [e0]; exact i64_nat _ (by omega)
  have f1 : IntKind.i64.wrap ((a : Int).tmod (b : Int)) = (m : Int) := by rw [e1]; exact i64_nat _ (by omega)
  have e2 : IntKind.i64.wrap ((m : Int) + b) = (m : Int) + b := IntWalk.i64_in _ (by omega)
  have e3 : IntKind.i64.wrap ((m : Int) + b - 1) = (m : Int) + b - 1 := IntWalk.i64_in _ (by omega)
  have e4 : ((m : Int) + b - 1).tdiv (b : Int) = (t : Int) := by
    subst ht
    rw [show (m : Int) + b - 1 = ((m + b - 1 : Nat) : Int) by omega]
    rfl
  have f2 : IntKind.i64.wrap (((m : Int) + b - 1).tdiv (b : Int)) = (t : Int) := by rw [e4]; exact i64_nat _ (by omega)
  have e6 : IntKind.i64.wrap ((d : Int) + (t : Int)) = (d : Int) + (t : Int) := IntWalk.i64_in _ (by omega)
  have hb0 : ¬ ((b : Int) = 0) := by omega
  have hb2 : ((b : Int) == 0) = false := by simpa using hb0
  rw [hsum]
  clear hd hm ht hsum
  go_enter Try.func54, Try.ntmps54
  go_wp2_with fail
  go_quiet (fail)
  go_wp2_with fail
  go_ret
  exact ⟨by simp, _, rfl⟩

theorem chE_bad {k n seg : Int} {ln : Nat} (h : ¬ good k n seg ln) : chE k n seg ln = 3 := if_neg h
theorem chE_good {k n seg : Int} {ln : Nat} (h : good k n seg ln) : chE k n seg ln = 0 := if_pos h

set_option maxRecDepth 100000 in
set_option maxHeartbeats 1000000 in
theorem check_n (k n seg happy : Int) (a : Option Addr) (ln c : Nat) (w : World) :
    Calls Try.prog 30 #[prV k n seg happy a ln c] w fun e w' => e = .returned (.int .i64 (chE k n seg ln : Nat)) ∧ w.grownBy w' none := by
  unfold prV
  by_cases h0 : n < 1
  · rw [chE_bad (fun h => by unfold good at h; omega)]
    go_enter Try.func30, Try.ntmps30
    go_wp2_with fail
    go_ret
    exact ⟨rfl, World.grownBy_alloc _ _ _⟩
  by_cases h1 : 255 < n
  · rw [chE_bad (fun h => by unfold good at h; omega)]
    go_enter Try.func30, Try.ntmps30
    go_wp2_with fail
    go_ret
    exact ⟨rfl, World.grownBy_alloc _ _ _⟩
  by_cases h2 : k < 1
  · rw [chE_bad (fun h => by unfold good at h; omega)]
    go_enter Try.func30, Try.ntmps30
    go_wp2_with fail
    go_ret
    exact ⟨rfl, World.grownBy_alloc _ _ _⟩
  by_cases h3 : n < k
  · rw [chE_bad (fun h => by unfold good at h; omega)]
    go_enter Try.func30, Try.ntmps30
    go_wp2_with fail
    go_ret
    exact ⟨rfl, World.grownBy_alloc _ _ _⟩
  by_cases h4 : seg < 1
  · rw [chE_bad (fun h => by unfold good at h; omega)]
    go_enter Try.func30, Try.ntmps30
    go_wp2_with fail
    go_ret
    exact ⟨rfl, World.grownBy_alloc _ _ _⟩
  by_cases h5 : 65536 < seg
  · rw [chE_bad (fun h => by unfold good at h; omega)]
    go_enter Try.func30, Try.ntmps30
    go_wp2_with fail
    go_ret
    exact ⟨rfl, World.grownBy_alloc _ _ _⟩
  by_cases h6 : 64 < (ln : Int)
  · rw [chE_bad (fun h => by unfold good at h; omega)]
    go_enter Try.func30, Try.ntmps30
    go_wp2_with fail
    go_ret
    exact ⟨rfl, World.grownBy_alloc _ _ _⟩
  rw [chE_good (by unfold good; omega)]
  go_enter Try.func30, Try.ntmps30
  go_wp2_with fail
  go_ret
  exact ⟨rfl, World.grownBy_alloc _ _ _⟩

set_option maxRecDepth 100000 in
set_option maxHeartbeats 1000000 in
theorem refCheck_n (k n seg happy : Int) (a : Option Addr) (ln c : Nat) (w : World) :
    Calls Try.prog 32 #[prV k n seg happy a ln c] w fun e w' => e = .returned (.int .i64 (chE k n seg ln : Nat)) ∧ w.grownBy w' none := by
  unfold prV
  by_cases h0 : n < 1
  · rw [chE_bad (fun h => by unfold good at h; omega)]
    go_enter Try.func32, Try.ntmps32
    go_wp2_with fail
    go_ret
    exact ⟨rfl, World.grownBy_alloc _ _ _⟩
  by_cases h1 : 255 < n
  · rw [chE_bad (fun h => by unfold good at h; omega)]
    go_enter Try.func32, Try.ntmps32
    go_wp2_with fail
    go_ret
    exact ⟨rfl, World.grownBy_alloc _ _ _⟩
  by_cases h2 : k < 1
  · rw [chE_bad (fun h => by unfold good at h; omega)]
    go_enter Try.func32, Try.ntmps32
    go_wp2_with fail
    go_ret
    exact ⟨rfl, World.grownBy_alloc _ _ _⟩
  by_cases h3 : n < k
  · rw [chE_bad (fun h => by unfold good at h; omega)]
    go_enter Try.func32, Try.ntmps32
    go_wp2_with fail
    go_ret
    exact ⟨rfl, World.grownBy_alloc _ _ _⟩
  by_cases h4 : seg < 1
  · rw [chE_bad (fun h => by unfold good at h; omega)]
    go_enter Try.func32, Try.ntmps32
    go_wp2_with fail
    go_ret
    exact ⟨rfl, World.grownBy_alloc _ _ _⟩
  by_cases h5 : 65536 < seg
  · rw [chE_bad (fun h => by unfold good at h; omega)]
    go_enter Try.func32, Try.ntmps32
    go_wp2_with fail
    go_ret
    exact ⟨rfl, World.grownBy_alloc _ _ _⟩
  by_cases h6 : 64 < (ln : Int)
  · rw [chE_bad (fun h => by unfold good at h; omega)]
    go_enter Try.func32, Try.ntmps32
    go_wp2_with fail
    go_ret
    exact ⟨rfl, World.grownBy_alloc _ _ _⟩
  rw [chE_good (by unfold good; omega)]
  go_enter Try.func32, Try.ntmps32
  go_wp2_with fail
  go_ret
  exact ⟨rfl, World.grownBy_alloc _ _ _⟩

end Go.Proofs.Ytfboddnpkaiifaa
