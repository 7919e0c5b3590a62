/- Helpers and contracts of the proofs over this seat: WireRefD, WireRefD1, WireRefE. Each states what a function of the program answers, or is plain Lean; its conditions stand in each statement. -/
import Derived.Test.YtkdmebcfedehiaaPtAA
import Derived.Test.YtkdmebcfedehiaaPtAB
import Derived.Test.YtkdmebcfedehiaaPtAC
import Derived.Test.YtkdmebcfedehiaaPtAE
set_option linter.unusedVariables false
/- The document's Reply of all bytes (strongroomref20). Printed by gens/wireref_d.py. -/
namespace Go.Proofs.Ytkdmebcfedehiaa
open Go.RowKit
def oLWireRefD0 : Oper := { dst := none, op := Op.store 24 (Operand.tmp 135) (Operand.tmp 134), type := 0, pos := "ref.go:242", after := #[{ on := 6, ground := Ground.data }, { on := 5, ground := Ground.data }, { on := 5, ground := Ground.chain }, { on := 0, ground := Ground.phase }, { on := 1, ground := Ground.phase }, { on := 2, ground := Ground.phase }, { on := 3, ground := Ground.phase }, { on := 4, ground := Ground.phase }, { on := 5, ground := Ground.phase }], guard := none }

set_option maxRecDepth 100000 in
set_option maxHeartbeats 4000000 in
theorem refRep_empty (a : Option Addr) (n c : Nat) (l : List UInt8) (w : World) (hl : BLies w a l) (hn : l.length = n) (hnm : n ≤ 140737488355328) (h0 : n = 0) :
    Calls Try.prog 39 #[.slice a n c] w fun e w' => RepP w (decR l) e w' := by
  subst h0
  have hd : decR l = .error 0 := by unfold decR; rw [if_pos (.inl (List.eq_nil_of_length_eq_zero hn))]
  rw [hd]
  clear hl hn hnm hd
  obtain ⟨ir, zr, hir, hirz, hirs, hz⟩ := info_rep
  subst hz
  go_enter Try.func39, Try.ntmps39
  go_upto_region 1 with (refine wpList_made rfl rfl hir hirz ?_; intro w1 hs1 hg1 hr1; have HG1 := Lib.hid hg1; have HT1 := Lib.hid (show Row w1 w.heap.size 26 #[.int .u8 0, .slice none 0 0, .slice none 0 0] from hr1); clear hs1 hg1 hr1)
  go_upto_region 2 with (refine wpList_made rfl rfl hir hirz ?_; intro w2 hs1 hg1 hr1; have HG2 := Lib.hid (grownBy_trans HG1.out hg1); have HT2 := Lib.hid (HT1.out.grown hg1); have HN2 := Lib.hid (show Row w2 w1.heap.size 26 #[.int .u8 0, .slice none 0 0, .slice none 0 0] from hr1); clear hs1 hg1 hr1)
  obtain ⟨bn, hbn⟩ : ∃ bn, bn = w1.heap.size := ⟨_, rfl⟩
  have HBN := Lib.hid (show w.heap.size < bn ∧ bn < w2.heap.size from ⟨by rw [hbn]; exact HT1.out.lt, by rw [hbn]; exact HN2.out.lt⟩)
  rw [← hbn] at HN2 ⊢
  clear hbn HG1 HT1
  go_wp2_with (first | (refine wpList_load_row rfl 26 _ rfl bn rfl 26 #[.int .u8 0, .slice none 0 0, .slice none 0 0] (0, 0) _ HN2.out Try.underlying26 rfl (by kernel_rfl) ?_) | (refine wpList_putrow rfl rfl w.heap.size rfl #[.int .u8 0, .slice none 0 0, .slice none 0 0] rfl HT2.out (by kernel_rfl) rfl (by simp [Value.oneCell']) ?_; intro W5 hg5 hr5; have HG5 := Lib.hid hg5; have HR5 := Lib.hid hr5; clear hg5 hr5))
  refine bodyPost_ret (results_ctt rfl _ _ w.heap.size 26 #[.int .u8 0, .slice none 0 0, .slice none 0 0] (0, 0) _ _ _ rfl rfl rfl HR5.out Try.underlying26 rfl (by kernel_rfl)) rfl ?_
  exact repP_err (0) _ (rfl) (grownBy_old HG2.out HG5.out (Nat.le_refl _))
set_option maxRecDepth 100000 in
set_option maxHeartbeats 4000000 in
theorem refRep_kind (a : Option Addr) (n c : Nat) (l : List UInt8) (w : World) (hl : BLies w a l) (hn : l.length = n) (hnm : n ≤ 140737488355328) (K : Int) (b off : Nat) (ha : a = some ⟨b, off, none⟩) (hK : K = ((l.getD 0 0).toNat : Int)) (h1 : 1 ≤ n) (hk : K < 1 ∨ 7 < K) :
    Calls Try.prog 39 #[.slice a n c] w fun e w' => RepP w (decR l) e w' := by
  have hd : decR l = .error 0 := by unfold decR; rw [if_pos (.inr (by omega))]
  rw [hd]
  have hce : ∀ W, w.grownBy W none → ∀ k, k < n → W.cell? ⟨b, off + k, none⟩ = some (.int .u8 ((l.getD k 0).toNat : Int)) := fun W hW k hk => by
    obtain ⟨b', off', e, h⟩ := bytes_cells (hl.grown hW) (by omega)
    rw [ha] at e
    injection e with e
    injection e with e1 e2
    subst e1; subst e2
    exact h k (by omega)
  have HC := Lib.hid hce
  have h00 : ((n : Int) == 0) = false := by rw [beq_eq_false_iff_ne]; omega
  have hK0 : ∀ W, w.grownBy W none → W.cell? ⟨b, off, none⟩ = some (.int .u8 K) := fun W hW => by rw [hK]; exact hce W hW 0 (by omega)
  have HK0 := Lib.hid hK0
  subst ha
  clear hce hK0
  clear hl hn hnm hd hK
  rcases (show K < 1 ∨ (¬ K < 1 ∧ 7 < K) by omega) with hk | ⟨hk, hk2⟩
  · have e1 : decide (K < 1) = true := decide_eq_true hk
    clear hk
    obtain ⟨ir, zr, hir, hirz, hirs, hz⟩ := info_rep
    subst hz
    go_enter Try.func39, Try.ntmps39
    go_upto_region 1 with (refine wpList_made rfl rfl hir hirz ?_; intro w1 hs1 hg1 hr1; have HG1 := Lib.hid hg1; have HT1 := Lib.hid (show Row w1 w.heap.size 26 #[.int .u8 0, .slice none 0 0, .slice none 0 0] from hr1); clear hs1 hg1 hr1)
    go_upto_region 2 with (refine wpList_made rfl rfl hir hirz ?_; intro w2 hs1 hg1 hr1; have HG2 := Lib.hid (grownBy_trans HG1.out hg1); have HT2 := Lib.hid (HT1.out.grown hg1); have HN2 := Lib.hid (show Row w2 w1.heap.size 26 #[.int .u8 0, .slice none 0 0, .slice none 0 0] from hr1); clear hs1 hg1 hr1)
    obtain ⟨bn, hbn⟩ : ∃ bn, bn = w1.heap.size := ⟨_, rfl⟩
    have HBN := Lib.hid (show w.heap.size < bn ∧ bn < w2.heap.size from ⟨by rw [hbn]; exact HT1.out.lt, by rw [hbn]; exact HN2.out.lt⟩)
    rw [← hbn] at HN2 ⊢
    clear hbn HG1 HT1
    have k0 := HK0.out w2 HG2.out
    go_wp2_with (first | (refine wpList_load_row rfl 26 _ rfl bn rfl 26 #[.int .u8 0, .slice none 0 0, .slice none 0 0] (0, 0) _ HN2.out Try.underlying26 rfl (by kernel_rfl) ?_) | (refine wpList_putrow rfl rfl w.heap.size rfl #[.int .u8 0, .slice none 0 0, .slice none 0 0] rfl HT2.out (by kernel_rfl) rfl (by simp [Value.oneCell']) ?_; intro W5 hg5 hr5; have HG5 := Lib.hid hg5; have HR5 := Lib.hid hr5; clear hg5 hr5))
    refine bodyPost_ret (results_ctt rfl _ _ w.heap.size 26 #[.int .u8 0, .slice none 0 0, .slice none 0 0] (0, 0) _ _ _ rfl rfl rfl HR5.out Try.underlying26 rfl (by kernel_rfl)) rfl ?_
    exact repP_err (0) _ (rfl) (grownBy_old HG2.out HG5.out (Nat.le_refl _))
  · have e1 : decide (K < 1) = false := decide_eq_false hk
    have e2 : decide (7 < K) = true := decide_eq_true hk2
    clear hk hk2
    obtain ⟨ir, zr, hir, hirz, hirs, hz⟩ := info_rep
    subst hz
    go_enter Try.func39, Try.ntmps39
    go_upto_region 1 with (refine wpList_made rfl rfl hir hirz ?_; intro w1 hs1 hg1 hr1; have HG1 := Lib.hid hg1; have HT1 := Lib.hid (show Row w1 w.heap.size 26 #[.int .u8 0, .slice none 0 0, .slice none 0 0] from hr1); clear hs1 hg1 hr1)
    go_upto_region 2 with (refine wpList_made rfl rfl hir hirz ?_; intro w2 hs1 hg1 hr1; have HG2 := Lib.hid (grownBy_trans HG1.out hg1); have HT2 := Lib.hid (HT1.out.grown hg1); have HN2 := Lib.hid (show Row w2 w1.heap.size 26 #[.int .u8 0, .slice none 0 0, .slice none 0 0] from hr1); clear hs1 hg1 hr1)
    obtain ⟨bn, hbn⟩ : ∃ bn, bn = w1.heap.size := ⟨_, rfl⟩
    have HBN := Lib.hid (show w.heap.size < bn ∧ bn < w2.heap.size from ⟨by rw [hbn]; exact HT1.out.lt, by rw [hbn]; exact HN2.out.lt⟩)
    rw [← hbn] at HN2 ⊢
    clear hbn HG1 HT1
    have k0 := HK0.out w2 HG2.out
    go_wp2_with (first | (refine wpList_load_row rfl 26 _ rfl bn rfl 26 #[.int .u8 0, .slice none 0 0, .slice none 0 0] (0, 0) _ HN2.out Try.underlying26 rfl (by kernel_rfl) ?_) | (refine wpList_putrow rfl rfl w.heap.size rfl #[.int .u8 0, .slice none 0 0, .slice none 0 0] rfl HT2.out (by kernel_rfl) rfl (by simp [Value.oneCell']) ?_; intro W5 hg5 hr5; have HG5 := Lib.hid hg5; have HR5 := Lib.hid hr5; clear hg5 hr5))
    refine bodyPost_ret (results_ctt rfl _ _ w.heap.size 26 #[.int .u8 0, .slice none 0 0, .slice none 0 0] (0, 0) _ _ _ rfl rfl rfl HR5.out Try.underlying26 rfl (by kernel_rfl)) rfl ?_
    exact repP_err (0) _ (rfl) (grownBy_old HG2.out HG5.out (Nat.le_refl _))
set_option maxRecDepth 100000 in
set_option maxHeartbeats 4000000 in
theorem refRep_plain (a : Option Addr) (n c : Nat) (l : List UInt8) (w : World) (hl : BLies w a l) (hn : l.length = n) (hnm : n ≤ 140737488355328) (K : Int) (b off : Nat) (ha : a = some ⟨b, off, none⟩) (hK : K = ((l.getD 0 0).toNat : Int)) (h1 : 1 ≤ n) (hk1 : 1 ≤ K) (hk7 : K ≤ 7) (hx1 : K ≠ 1) (hx5 : K ≠ 5) :
    Calls Try.prog 39 #[.slice a n c] w fun e w' => RepP w (decR l) e w' := by
  have hne : ¬ (l = [] ∨ (l.getD 0 0).toNat < 1 ∨ 7 < (l.getD 0 0).toNat) := fun h => by
    rcases h with h | h
    · rw [h] at hn; simp at hn; omega
    · omega
  have f1 : decide (K < 1) = false := decide_eq_false (by omega)
  have f7 : decide (7 < K) = false := decide_eq_false (by omega)
  have g1 : (K == 1) = false := by rw [beq_eq_false_iff_ne]; exact hx1
  have g5 : (K == 5) = false := by rw [beq_eq_false_iff_ne]; exact hx5
  have i1 : decide ((n : Int) < (1 : Int)) = false := decide_eq_false (by omega)
  have i1' : decide (n < 1) = false := decide_eq_false (by omega)
  have hwn : IntKind.u64.wrap (n : Int) = (n : Int) := IntWalk.u64_in _ (by omega)
  have hce : ∀ W, w.grownBy W none → ∀ k, k < n → W.cell? ⟨b, off + k, none⟩ = some (.int .u8 ((l.getD k 0).toNat : Int)) := fun W hW k hk => by
    obtain ⟨b', off', e, h⟩ := bytes_cells (hl.grown hW) (by omega)
    rw [ha] at e
    injection e with e
    injection e with e1 e2
    subst e1; subst e2
    exact h k (by omega)
  have HC := Lib.hid hce
  have h00 : ((n : Int) == 0) = false := by rw [beq_eq_false_iff_ne]; omega
  have hK0 : ∀ W, w.grownBy W none → W.cell? ⟨b, off, none⟩ = some (.int .u8 K) := fun W hW => by rw [hK]; exact hce W hW 0 (by omega)
  have HK0 := Lib.hid hK0
  subst ha
  clear hce hK0
  by_cases hn1 : n = 1
  · have hd : decR l = .ok ⟨(l.getD 0 0).toNat, [], []⟩ := by unfold decR; rw [if_neg hne, if_neg (by omega), if_neg (by omega), if_neg (by omega)]
    rw [hd]
    have i2 : decide ((1 : Int) < (n : Int)) = false := decide_eq_false (by omega)
    have i2' : decide (1 < n) = false := decide_eq_false (by omega)
    have HKK := Lib.hid hK
    clear hl hn hnm hd hK hk1 hk7 hne hx1 hx5 hn1
    obtain ⟨ir, zr, hir, hirz, hirs, hz⟩ := info_rep
    subst hz
    go_enter Try.func39, Try.ntmps39
    go_upto_region 1 with (refine wpList_made rfl rfl hir hirz ?_; intro w1 hs1 hg1 hr1; have HG1 := Lib.hid hg1; have HT1 := Lib.hid (show Row w1 w.heap.size 26 #[.int .u8 0, .slice none 0 0, .slice none 0 0] from hr1); clear hs1 hg1 hr1)
    go_upto_region 2 with (refine wpList_made rfl rfl hir hirz ?_; intro w2 hs1 hg1 hr1; have HG2 := Lib.hid (grownBy_trans HG1.out hg1); have HT2 := Lib.hid (HT1.out.grown hg1); have HN2 := Lib.hid (show Row w2 w1.heap.size 26 #[.int .u8 0, .slice none 0 0, .slice none 0 0] from hr1); clear hs1 hg1 hr1)
    obtain ⟨bn, hbn⟩ : ∃ bn, bn = w1.heap.size := ⟨_, rfl⟩
    have HBN := Lib.hid (show w.heap.size < bn ∧ bn < w2.heap.size from ⟨by rw [hbn]; exact HT1.out.lt, by rw [hbn]; exact HN2.out.lt⟩)
    rw [← hbn] at HN2 ⊢
    clear hbn HG1 HT1
    have k0 := HK0.out w2 HG2.out
    go_upto_region 4 with fail
    go_upto_region 5 with (refine wpList_fresh rfl rfl rfl rfl rfl hir hirz hirs #[.int .u8 K, .slice none 0 0, .slice none 0 0] rfl rfl rfl (by simp [Value.oneCell']) ?_; intro w3 hs2 hg2 hr2; have HG3 := Lib.hid (grownBy_trans HG2.out hg2); have HR3 := Lib.hid (show Row w3 w2.heap.size 26 #[.int .u8 K, .slice none 0 0, .slice none 0 0] from hr2); have HT3 := Lib.hid (HT2.out.grown hg2); have HN3 := Lib.hid (HN2.out.grown hg2); clear hs2 hg2 hr2)
    obtain ⟨bo, hbo⟩ : ∃ bo, bo = w2.heap.size := ⟨_, rfl⟩
    have HBO := Lib.hid (show w.heap.size < bn ∧ bn < bo ∧ bo < w3.heap.size from ⟨HBN.out.1, by rw [hbo]; exact HBN.out.2, by rw [hbo]; exact HR3.out.lt⟩)
    rw [← hbo] at HR3 ⊢
    clear hbo k0 HT2 HN2 HG2 HBN
    have d0 := Row.cell HR3.out 0
    simp at d0
    go_wp2_with (first | (refine wpList_load_row rfl 26 _ rfl bo rfl 26 #[.int .u8 K, .slice none 0 0, .slice none 0 0] (0, 0) _ HR3.out Try.underlying26 rfl (by kernel_rfl) ?_) | (refine wpList_putrow rfl rfl w.heap.size rfl #[.int .u8 K, .slice none 0 0, .slice none 0 0] rfl HT3.out (by kernel_rfl) rfl (by simp [Value.oneCell']) ?_; intro W5 hg5 hr5; have HG5 := Lib.hid hg5; have HR5 := Lib.hid hr5; clear hg5 hr5))
    refine bodyPost_ret (results_ctt rfl _ _ w.heap.size 26 #[.int .u8 K, .slice none 0 0, .slice none 0 0] (0, 0) _ _ _ rfl rfl rfl HR5.out Try.underlying26 rfl (by kernel_rfl)) rfl ?_
    have hE : Ending.returned (.tuple #[.agg #[.int .u8 K, .slice none 0 0, .slice none 0 0], .int .i64 0, .int .i64 0]) = .returned (.tuple #[.agg #[.int .u8 ((l.getD 0 0).toNat : Int), .slice none 0 0, .slice none 0 0], .int .i64 0, .int .i64 0]) := by rw [HKK.out]
    exact ⟨none, 0, 0, none, 0, 0, hE, Own.nil _ _ _ _ _, Own.nil _ _ _ _ _, grownBy_old HG3.out HG5.out (Nat.le_refl _)⟩
  · have hd : decR l = .error 1 := by unfold decR; rw [if_neg hne, if_neg (by omega), if_neg (by omega), if_pos (by omega)]
    rw [hd]
    have i2 : decide ((1 : Int) < (n : Int)) = true := decide_eq_true (by omega)
    have i2' : decide (1 < n) = true := decide_eq_true (by omega)
    clear hl hn hnm hd hK hk1 hk7 hne hx1 hx5 hn1
    obtain ⟨ir, zr, hir, hirz, hirs, hz⟩ := info_rep
    subst hz
    go_enter Try.func39, Try.ntmps39
    go_upto_region 1 with (refine wpList_made rfl rfl hir hirz ?_; intro w1 hs1 hg1 hr1; have HG1 := Lib.hid hg1; have HT1 := Lib.hid (show Row w1 w.heap.size 26 #[.int .u8 0, .slice none 0 0, .slice none 0 0] from hr1); clear hs1 hg1 hr1)
    go_upto_region 2 with (refine wpList_made rfl rfl hir hirz ?_; intro w2 hs1 hg1 hr1; have HG2 := Lib.hid (grownBy_trans HG1.out hg1); have HT2 := Lib.hid (HT1.out.grown hg1); have HN2 := Lib.hid (show Row w2 w1.heap.size 26 #[.int .u8 0, .slice none 0 0, .slice none 0 0] from hr1); clear hs1 hg1 hr1)
    obtain ⟨bn, hbn⟩ : ∃ bn, bn = w1.heap.size := ⟨_, rfl⟩
    have HBN := Lib.hid (show w.heap.size < bn ∧ bn < w2.heap.size from ⟨by rw [hbn]; exact HT1.out.lt, by rw [hbn]; exact HN2.out.lt⟩)
    rw [← hbn] at HN2 ⊢
    clear hbn HG1 HT1
    have k0 := HK0.out w2 HG2.out
    go_upto_region 4 with fail
    go_upto_region 5 with (refine wpList_fresh rfl rfl rfl rfl rfl hir hirz hirs #[.int .u8 K, .slice none 0 0, .slice none 0 0] rfl rfl rfl (by simp [Value.oneCell']) ?_; intro w3 hs2 hg2 hr2; have HG3 := Lib.hid (grownBy_trans HG2.out hg2); have HR3 := Lib.hid (show Row w3 w2.heap.size 26 #[.int .u8 K, .slice none 0 0, .slice none 0 0] from hr2); have HT3 := Lib.hid (HT2.out.grown hg2); have HN3 := Lib.hid (HN2.out.grown hg2); clear hs2 hg2 hr2)
    obtain ⟨bo, hbo⟩ : ∃ bo, bo = w2.heap.size := ⟨_, rfl⟩
    have HBO := Lib.hid (show w.heap.size < bn ∧ bn < bo ∧ bo < w3.heap.size from ⟨HBN.out.1, by rw [hbo]; exact HBN.out.2, by rw [hbo]; exact HR3.out.lt⟩)
    rw [← hbo] at HR3 ⊢
    clear hbo k0 HT2 HN2 HG2 HBN
    have d0 := Row.cell HR3.out 0
    simp at d0
    go_wp2_with (first | (refine wpList_load_row rfl 26 _ rfl bn rfl 26 #[.int .u8 0, .slice none 0 0, .slice none 0 0] (0, 0) _ HN3.out Try.underlying26 rfl (by kernel_rfl) ?_) | (refine wpList_putrow rfl rfl w.heap.size rfl #[.int .u8 0, .slice none 0 0, .slice none 0 0] rfl HT3.out (by kernel_rfl) rfl (by simp [Value.oneCell']) ?_; intro W5 hg5 hr5; have HG5 := Lib.hid hg5; have HR5 := Lib.hid hr5; clear hg5 hr5))
    refine bodyPost_ret (results_ctt rfl _ _ w.heap.size 26 #[.int .u8 0, .slice none 0 0, .slice none 0 0] (0, 0) _ _ _ rfl rfl rfl HR5.out Try.underlying26 rfl (by kernel_rfl)) rfl ?_
    exact repP_err (1) _ (rfl) (grownBy_old HG3.out HG5.out (Nat.le_refl _))
set_option maxRecDepth 100000 in
set_option maxHeartbeats 4000000 in
theorem refRep_5a (a : Option Addr) (n c : Nat) (l : List UInt8) (w : World) (hl : BLies w a l) (hn : l.length = n) (hnm : n ≤ 140737488355328) (hc : n ≤ c) (b off : Nat) (ha : a = some ⟨b, off, none⟩) (hK : (5 : Int) = ((l.getD 0 0).toNat : Int)) (h1 : 1 ≤ n) (hs : n < 5) :
    Calls Try.prog 39 #[.slice a n c] w fun e w' => RepP w (decR l) e w' := by
  have hne : ¬ (l = [] ∨ (l.getD 0 0).toNat < 1 ∨ 7 < (l.getD 0 0).toNat) := fun h => by
    rcases h with h | h
    · rw [h] at hn; simp at hn; omega
    · omega
  have hce : ∀ W, w.grownBy W none → ∀ k, k < n → W.cell? ⟨b, off + k, none⟩ = some (.int .u8 ((l.getD k 0).toNat : Int)) := fun W hW k hk => by
    obtain ⟨b', off', e, h⟩ := bytes_cells (hl.grown hW) (by omega)
    rw [ha] at e
    injection e with e
    injection e with e1 e2
    subst e1; subst e2
    exact h k (by omega)
  have HC := Lib.hid hce
  have h00 : ((n : Int) == 0) = false := by rw [beq_eq_false_iff_ne]; omega
  have hK0 : ∀ W, w.grownBy W none → W.cell? ⟨b, off, none⟩ = some (.int .u8 5) := fun W hW => by rw [hK]; exact hce W hW 0 (by omega)
  have HK0 := Lib.hid hK0
  subst ha
  clear hce hK0
  have hd : decR l = .error n := by unfold decR; rw [if_neg hne, if_neg (by omega), if_pos (by omega), if_pos (by omega), hn]
  rw [hd]
  have i1 : decide ((n : Int) < (5 : Int)) = true := decide_eq_true (by omega)
  have i1' : decide (n < 5) = true := decide_eq_true (by omega)
  clear hl hn hd hK hne hc hs
  obtain ⟨ir, zr, hir, hirz, hirs, hz⟩ := info_rep
  subst hz
  go_enter Try.func39, Try.ntmps39
  go_upto_region 1 with (refine wpList_made rfl rfl hir hirz ?_; intro w1 hs1 hg1 hr1; have HG1 := Lib.hid hg1; have HT1 := Lib.hid (show Row w1 w.heap.size 26 #[.int .u8 0, .slice none 0 0, .slice none 0 0] from hr1); clear hs1 hg1 hr1)
  go_upto_region 2 with (refine wpList_made rfl rfl hir hirz ?_; intro w2 hs1 hg1 hr1; have HG2 := Lib.hid (grownBy_trans HG1.out hg1); have HT2 := Lib.hid (HT1.out.grown hg1); have HN2 := Lib.hid (show Row w2 w1.heap.size 26 #[.int .u8 0, .slice none 0 0, .slice none 0 0] from hr1); clear hs1 hg1 hr1)
  obtain ⟨bn, hbn⟩ : ∃ bn, bn = w1.heap.size := ⟨_, rfl⟩
  have HBN := Lib.hid (show w.heap.size < bn ∧ bn < w2.heap.size from ⟨by rw [hbn]; exact HT1.out.lt, by rw [hbn]; exact HN2.out.lt⟩)
  rw [← hbn] at HN2 ⊢
  clear hbn HG1 HT1
  have k0 := HK0.out w2 HG2.out
  go_upto_region 4 with fail
  go_upto_region 5 with (refine wpList_fresh rfl rfl rfl rfl rfl hir hirz hirs #[.int .u8 5, .slice none 0 0, .slice none 0 0] rfl rfl rfl (by simp [Value.oneCell']) ?_; intro w3 hs2 hg2 hr2; have HG3 := Lib.hid (grownBy_trans HG2.out hg2); have HR3 := Lib.hid (show Row w3 w2.heap.size 26 #[.int .u8 5, .slice none 0 0, .slice none 0 0] from hr2); have HT3 := Lib.hid (HT2.out.grown hg2); have HN3 := Lib.hid (HN2.out.grown hg2); clear hs2 hg2 hr2)
  obtain ⟨bo, hbo⟩ : ∃ bo, bo = w2.heap.size := ⟨_, rfl⟩
  have HBO := Lib.hid (show w.heap.size < bn ∧ bn < bo ∧ bo < w3.heap.size from ⟨HBN.out.1, by rw [hbo]; exact HBN.out.2, by rw [hbo]; exact HR3.out.lt⟩)
  rw [← hbo] at HR3 ⊢
  clear hbo k0 HT2 HN2 HG2 HBN
  have d0 := Row.cell HR3.out 0
  simp at d0
  go_wp2_with (first | (refine wpList_load_row rfl 26 _ rfl bn rfl 26 #[.int .u8 0, .slice none 0 0, .slice none 0 0] (0, 0) _ HN3.out Try.underlying26 rfl (by kernel_rfl) ?_) | (refine wpList_putrow rfl rfl w.heap.size rfl #[.int .u8 0, .slice none 0 0, .slice none 0 0] rfl HT3.out (by kernel_rfl) rfl (by simp [Value.oneCell']) ?_; intro W5 hg5 hr5; have HG5 := Lib.hid hg5; have HR5 := Lib.hid hr5; clear hg5 hr5))
  refine bodyPost_ret (results_ctt rfl _ _ w.heap.size 26 #[.int .u8 0, .slice none 0 0, .slice none 0 0] (0, 0) _ _ _ rfl rfl rfl HR5.out Try.underlying26 rfl (by kernel_rfl)) rfl ?_
  exact repP_err (n) _ (rfl) (grownBy_old HG3.out HG5.out (Nat.le_refl _))
set_option maxRecDepth 100000 in
set_option maxHeartbeats 4000000 in
theorem refRep_5b (a : Option Addr) (n c : Nat) (l : List UInt8) (w : World) (hl : BLies w a l) (hn : l.length = n) (hnm : n ≤ 140737488355328) (hc : n ≤ c) (b off : Nat) (ha : a = some ⟨b, off, none⟩) (hK : (5 : Int) = ((l.getD 0 0).toNat : Int)) (h1 : 1 ≤ n) (hs : 5 ≤ n) (hX0 : getN l 1 4 < 1) :
    Calls Try.prog 39 #[.slice a n c] w fun e w' => RepP w (decR l) e w' := by
  have hne : ¬ (l = [] ∨ (l.getD 0 0).toNat < 1 ∨ 7 < (l.getD 0 0).toNat) := fun h => by
    rcases h with h | h
    · rw [h] at hn; simp at hn; omega
    · omega
  have hce : ∀ W, w.grownBy W none → ∀ k, k < n → W.cell? ⟨b, off + k, none⟩ = some (.int .u8 ((l.getD k 0).toNat : Int)) := fun W hW k hk => by
    obtain ⟨b', off', e, h⟩ := bytes_cells (hl.grown hW) (by omega)
    rw [ha] at e
    injection e with e
    injection e with e1 e2
    subst e1; subst e2
    exact h k (by omega)
  have HC := Lib.hid hce
  have h00 : ((n : Int) == 0) = false := by rw [beq_eq_false_iff_ne]; omega
  have hK0 : ∀ W, w.grownBy W none → W.cell? ⟨b, off, none⟩ = some (.int .u8 5) := fun W hW => by rw [hK]; exact hce W hW 0 (by omega)
  have HK0 := Lib.hid hK0
  subst ha
  clear hce hK0
  have hd : decR l = .error 1 := by unfold decR; rw [if_neg hne, if_neg (by omega), if_pos (by omega), if_neg (by omega), if_pos (by omega)]
  rw [hd]
  obtain ⟨X, hX⟩ : ∃ X, X = getN l 1 4 := ⟨_, rfl⟩
  have hXlt : X < 4294967296 := by rw [hX]; exact getN_lt l 1
  have hat : ∀ W, w.grownBy W none → Calls Try.prog 63 #[.slice (some ⟨b, off, none⟩) n c, .int .i64 1, .int .i64 4] W fun e w' => e = .returned (.int .u64 (X : Int)) ∧ W = w' := fun W hW => by
    rw [hX]
    exact refAt_n (some ⟨b, off, none⟩) n c 1 4 l W (hl.grown hW) hn (by unfold maxLen; omega) (by omega) (by omega)
  have HAT := Lib.hid hat
  clear hat
  have i1 : decide ((n : Int) < (5 : Int)) = false := decide_eq_false (by omega)
  have i1' : decide (n < 5) = false := decide_eq_false (by omega)
  have x1 : decide ((X : Int) < (1 : Int)) = true := decide_eq_true (by omega)
  have x1' : decide (X < 1) = true := decide_eq_true (by omega)
  clear hl hn hd hK hne hX hX0
  obtain ⟨ir, zr, hir, hirz, hirs, hz⟩ := info_rep
  subst hz
  go_enter Try.func39, Try.ntmps39
  go_upto_region 1 with (refine wpList_made rfl rfl hir hirz ?_; intro w1 hs1 hg1 hr1; have HG1 := Lib.hid hg1; have HT1 := Lib.hid (show Row w1 w.heap.size 26 #[.int .u8 0, .slice none 0 0, .slice none 0 0] from hr1); clear hs1 hg1 hr1)
  go_upto_region 2 with (refine wpList_made rfl rfl hir hirz ?_; intro w2 hs1 hg1 hr1; have HG2 := Lib.hid (grownBy_trans HG1.out hg1); have HT2 := Lib.hid (HT1.out.grown hg1); have HN2 := Lib.hid (show Row w2 w1.heap.size 26 #[.int .u8 0, .slice none 0 0, .slice none 0 0] from hr1); clear hs1 hg1 hr1)
  obtain ⟨bn, hbn⟩ : ∃ bn, bn = w1.heap.size := ⟨_, rfl⟩
  have HBN := Lib.hid (show w.heap.size < bn ∧ bn < w2.heap.size from ⟨by rw [hbn]; exact HT1.out.lt, by rw [hbn]; exact HN2.out.lt⟩)
  rw [← hbn] at HN2 ⊢
  clear hbn HG1 HT1
  have k0 := HK0.out w2 HG2.out
  go_upto_region 4 with fail
  go_upto_region 5 with (refine wpList_fresh rfl rfl rfl rfl rfl hir hirz hirs #[.int .u8 5, .slice none 0 0, .slice none 0 0] rfl rfl rfl (by simp [Value.oneCell']) ?_; intro w3 hs2 hg2 hr2; have HG3 := Lib.hid (grownBy_trans HG2.out hg2); have HR3 := Lib.hid (show Row w3 w2.heap.size 26 #[.int .u8 5, .slice none 0 0, .slice none 0 0] from hr2); have HT3 := Lib.hid (HT2.out.grown hg2); have HN3 := Lib.hid (HN2.out.grown hg2); clear hs2 hg2 hr2)
  obtain ⟨bo, hbo⟩ : ∃ bo, bo = w2.heap.size := ⟨_, rfl⟩
  have HBO := Lib.hid (show w.heap.size < bn ∧ bn < bo ∧ bo < w3.heap.size from ⟨HBN.out.1, by rw [hbo]; exact HBN.out.2, by rw [hbo]; exact HR3.out.lt⟩)
  rw [← hbo] at HR3 ⊢
  clear hbo k0 HT2 HN2 HG2 HBN
  have d0 := Row.cell HR3.out 0
  simp at d0
  go_upto_region 23 with (go_at_call 63; refine (HAT.out w3 HG3.out).mono ?_; rintro e w' ⟨rfl, rfl⟩)
  go_wp2_with (first | (refine wpList_load_row rfl 26 _ rfl bn rfl 26 #[.int .u8 0, .slice none 0 0, .slice none 0 0] (0, 0) _ HN3.out Try.underlying26 rfl (by kernel_rfl) ?_) | (refine wpList_putrow rfl rfl w.heap.size rfl #[.int .u8 0, .slice none 0 0, .slice none 0 0] rfl HT3.out (by kernel_rfl) rfl (by simp [Value.oneCell']) ?_; intro W5 hg5 hr5; have HG5 := Lib.hid hg5; have HR5 := Lib.hid hr5; clear hg5 hr5))
  refine bodyPost_ret (results_ctt rfl _ _ w.heap.size 26 #[.int .u8 0, .slice none 0 0, .slice none 0 0] (0, 0) _ _ _ rfl rfl rfl HR5.out Try.underlying26 rfl (by kernel_rfl)) rfl ?_
  exact repP_err (1) _ (rfl) (grownBy_old HG3.out HG5.out (Nat.le_refl _))
set_option maxRecDepth 100000 in
set_option maxHeartbeats 4000000 in
theorem refRep_5c (a : Option Addr) (n c : Nat) (l : List UInt8) (w : World) (hl : BLies w a l) (hn : l.length = n) (hnm : n ≤ 140737488355328) (hc : n ≤ c) (b off : Nat) (ha : a = some ⟨b, off, none⟩) (hK : (5 : Int) = ((l.getD 0 0).toNat : Int)) (h1 : 1 ≤ n) (hs : 5 ≤ n) (hX0 : 131072 < getN l 1 4) :
    Calls Try.prog 39 #[.slice a n c] w fun e w' => RepP w (decR l) e w' := by
  have hne : ¬ (l = [] ∨ (l.getD 0 0).toNat < 1 ∨ 7 < (l.getD 0 0).toNat) := fun h => by
    rcases h with h | h
    · rw [h] at hn; simp at hn; omega
    · omega
  have hce : ∀ W, w.grownBy W none → ∀ k, k < n → W.cell? ⟨b, off + k, none⟩ = some (.int .u8 ((l.getD k 0).toNat : Int)) := fun W hW k hk => by
    obtain ⟨b', off', e, h⟩ := bytes_cells (hl.grown hW) (by omega)
    rw [ha] at e
    injection e with e
    injection e with e1 e2
    subst e1; subst e2
    exact h k (by omega)
  have HC := Lib.hid hce
  have h00 : ((n : Int) == 0) = false := by rw [beq_eq_false_iff_ne]; omega
  have hK0 : ∀ W, w.grownBy W none → W.cell? ⟨b, off, none⟩ = some (.int .u8 5) := fun W hW => by rw [hK]; exact hce W hW 0 (by omega)
  have HK0 := Lib.hid hK0
  subst ha
  clear hce hK0
  have hd : decR l = .error 1 := by unfold decR; rw [if_neg hne, if_neg (by omega), if_pos (by omega), if_neg (by omega), if_pos (by omega)]
  rw [hd]
  obtain ⟨X, hX⟩ : ∃ X, X = getN l 1 4 := ⟨_, rfl⟩
  have hXlt : X < 4294967296 := by rw [hX]; exact getN_lt l 1
  have hat : ∀ W, w.grownBy W none → Calls Try.prog 63 #[.slice (some ⟨b, off, none⟩) n c, .int .i64 1, .int .i64 4] W fun e w' => e = .returned (.int .u64 (X : Int)) ∧ W = w' := fun W hW => by
    rw [hX]
    exact refAt_n (some ⟨b, off, none⟩) n c 1 4 l W (hl.grown hW) hn (by unfold maxLen; omega) (by omega) (by omega)
  have HAT := Lib.hid hat
  clear hat
  have i1 : decide ((n : Int) < (5 : Int)) = false := decide_eq_false (by omega)
  have i1' : decide (n < 5) = false := decide_eq_false (by omega)
  have x1 : decide ((X : Int) < (1 : Int)) = false := decide_eq_false (by omega)
  have x1' : decide (X < 1) = false := decide_eq_false (by omega)
  have x3 : decide ((131072 : Int) < (X : Int)) = true := decide_eq_true (by omega)
  have x3' : decide (131072 < X) = true := decide_eq_true (by omega)
  clear hl hn hd hK hne hX hX0
  obtain ⟨ir, zr, hir, hirz, hirs, hz⟩ := info_rep
  subst hz
  go_enter Try.func39, Try.ntmps39
  go_upto_region 1 with (refine wpList_made rfl rfl hir hirz ?_; intro w1 hs1 hg1 hr1; have HG1 := Lib.hid hg1; have HT1 := Lib.hid (show Row w1 w.heap.size 26 #[.int .u8 0, .slice none 0 0, .slice none 0 0] from hr1); clear hs1 hg1 hr1)
  go_upto_region 2 with (refine wpList_made rfl rfl hir hirz ?_; intro w2 hs1 hg1 hr1; have HG2 := Lib.hid (grownBy_trans HG1.out hg1); have HT2 := Lib.hid (HT1.out.grown hg1); have HN2 := Lib.hid (show Row w2 w1.heap.size 26 #[.int .u8 0, .slice none 0 0, .slice none 0 0] from hr1); clear hs1 hg1 hr1)
  obtain ⟨bn, hbn⟩ : ∃ bn, bn = w1.heap.size := ⟨_, rfl⟩
  have HBN := Lib.hid (show w.heap.size < bn ∧ bn < w2.heap.size from ⟨by rw [hbn]; exact HT1.out.lt, by rw [hbn]; exact HN2.out.lt⟩)
  rw [← hbn] at HN2 ⊢
  clear hbn HG1 HT1
  have k0 := HK0.out w2 HG2.out
  go_upto_region 4 with fail
  go_upto_region 5 with (refine wpList_fresh rfl rfl rfl rfl rfl hir hirz hirs #[.int .u8 5, .slice none 0 0, .slice none 0 0] rfl rfl rfl (by simp [Value.oneCell']) ?_; intro w3 hs2 hg2 hr2; have HG3 := Lib.hid (grownBy_trans HG2.out hg2); have HR3 := Lib.hid (show Row w3 w2.heap.size 26 #[.int .u8 5, .slice none 0 0, .slice none 0 0] from hr2); have HT3 := Lib.hid (HT2.out.grown hg2); have HN3 := Lib.hid (HN2.out.grown hg2); clear hs2 hg2 hr2)
  obtain ⟨bo, hbo⟩ : ∃ bo, bo = w2.heap.size := ⟨_, rfl⟩
  have HBO := Lib.hid (show w.heap.size < bn ∧ bn < bo ∧ bo < w3.heap.size from ⟨HBN.out.1, by rw [hbo]; exact HBN.out.2, by rw [hbo]; exact HR3.out.lt⟩)
  rw [← hbo] at HR3 ⊢
  clear hbo k0 HT2 HN2 HG2 HBN
  have d0 := Row.cell HR3.out 0
  simp at d0
  go_upto_region 23 with (go_at_call 63; refine (HAT.out w3 HG3.out).mono ?_; rintro e w' ⟨rfl, rfl⟩)
  go_wp2_with (first | (refine wpList_load_row rfl 26 _ rfl bn rfl 26 #[.int .u8 0, .slice none 0 0, .slice none 0 0] (0, 0) _ HN3.out Try.underlying26 rfl (by kernel_rfl) ?_) | (refine wpList_putrow rfl rfl w.heap.size rfl #[.int .u8 0, .slice none 0 0, .slice none 0 0] rfl HT3.out (by kernel_rfl) rfl (by simp [Value.oneCell']) ?_; intro W5 hg5 hr5; have HG5 := Lib.hid hg5; have HR5 := Lib.hid hr5; clear hg5 hr5))
  refine bodyPost_ret (results_ctt rfl _ _ w.heap.size 26 #[.int .u8 0, .slice none 0 0, .slice none 0 0] (0, 0) _ _ _ rfl rfl rfl HR5.out Try.underlying26 rfl (by kernel_rfl)) rfl ?_
  exact repP_err (1) _ (rfl) (grownBy_old HG3.out HG5.out (Nat.le_refl _))
set_option maxRecDepth 100000 in
set_option maxHeartbeats 4000000 in
theorem refRep_5d (a : Option Addr) (n c : Nat) (l : List UInt8) (w : World) (hl : BLies w a l) (hn : l.length = n) (hnm : n ≤ 140737488355328) (hc : n ≤ c) (b off : Nat) (ha : a = some ⟨b, off, none⟩) (hK : (5 : Int) = ((l.getD 0 0).toNat : Int)) (h1 : 1 ≤ n) (hs : 5 ≤ n) (hX0 : 1 ≤ getN l 1 4 ∧ getN l 1 4 ≤ 131072) (hnX : n < 5 + getN l 1 4) :
    Calls Try.prog 39 #[.slice a n c] w fun e w' => RepP w (decR l) e w' := by
  have hne : ¬ (l = [] ∨ (l.getD 0 0).toNat < 1 ∨ 7 < (l.getD 0 0).toNat) := fun h => by
    rcases h with h | h
    · rw [h] at hn; simp at hn; omega
    · omega
  have hce : ∀ W, w.grownBy W none → ∀ k, k < n → W.cell? ⟨b, off + k, none⟩ = some (.int .u8 ((l.getD k 0).toNat : Int)) := fun W hW k hk => by
    obtain ⟨b', off', e, h⟩ := bytes_cells (hl.grown hW) (by omega)
    rw [ha] at e
    injection e with e
    injection e with e1 e2
    subst e1; subst e2
    exact h k (by omega)
  have HC := Lib.hid hce
  have h00 : ((n : Int) == 0) = false := by rw [beq_eq_false_iff_ne]; omega
  have hK0 : ∀ W, w.grownBy W none → W.cell? ⟨b, off, none⟩ = some (.int .u8 5) := fun W hW => by rw [hK]; exact hce W hW 0 (by omega)
  have HK0 := Lib.hid hK0
  subst ha
  clear hce hK0
  have hd : decR l = .error n := by unfold decR; rw [if_neg hne, if_neg (by omega), if_pos (by omega), if_neg (by omega), if_neg (by omega), if_pos (by omega), hn, show min n (5 + getN l 1 4) = n by omega]
  rw [hd]
  obtain ⟨Y, hY⟩ : ∃ Y, n - 5 = Y := ⟨_, rfl⟩
  have HY5 := Lib.hid (show 5 ≤ n ∧ n - 5 = Y from ⟨hs, hY⟩)
  have hYb : Y ≤ 140737488355328 := by omega
  have HSL := Lib.hid (show ∀ W, w.grownBy W none → BLies W (midA (some ⟨b, off, none⟩) 5 c) (l.drop 5) from fun W hW => suf_lies (hl.grown hW) 5 c (by omega) (by omega))
  have HSM := Lib.hid (show (l.drop 5).length = Y by rw [List.length_drop]; omega)
  obtain ⟨X, hX⟩ : ∃ X, X = getN l 1 4 := ⟨_, rfl⟩
  have hXlt : X < 4294967296 := by rw [hX]; exact getN_lt l 1
  have hat : ∀ W, w.grownBy W none → Calls Try.prog 63 #[.slice (some ⟨b, off, none⟩) n c, .int .i64 1, .int .i64 4] W fun e w' => e = .returned (.int .u64 (X : Int)) ∧ W = w' := fun W hW => by
    rw [hX]
    exact refAt_n (some ⟨b, off, none⟩) n c 1 4 l W (hl.grown hW) hn (by unfold maxLen; omega) (by omega) (by omega)
  have HAT := Lib.hid hat
  clear hat
  have i1 : decide ((n : Int) < (5 : Int)) = false := decide_eq_false (by omega)
  have i1' : decide (n < 5) = false := decide_eq_false (by omega)
  have x1 : decide ((X : Int) < (1 : Int)) = false := decide_eq_false (by omega)
  have x1' : decide (X < 1) = false := decide_eq_false (by omega)
  have x3 : decide ((131072 : Int) < (X : Int)) = false := decide_eq_false (by omega)
  have x3' : decide (131072 < X) = false := decide_eq_false (by omega)
  have hwn : IntKind.u64.wrap (n : Int) = (n : Int) := IntWalk.u64_in _ (by omega)
  rw [← hX] at hnX
  have hw5 : IntKind.u64.wrap (5 + (X : Int)) = 5 + (X : Int) := IntWalk.u64_in _ (by omega)
  have hwi : IntKind.i64.wrap (5 + (X : Int)) = 5 + (X : Int) := IntWalk.i64_in _ (by omega)
  have j1 : decide ((n : Int) < 5 + (X : Int)) = true := decide_eq_true (by omega)
  have j2 : decide (5 + (X : Int) < (n : Int)) = false := decide_eq_false (by omega)
  have HX5 := Lib.hid hnX
  clear hl hn hd hK hne hX hX0 hY hs hnX
  obtain ⟨ir, zr, hir, hirz, hirs, hz⟩ := info_rep
  subst hz
  go_enter Try.func39, Try.ntmps39
  go_upto_region 1 with (refine wpList_made rfl rfl hir hirz ?_; intro w1 hs1 hg1 hr1; have HG1 := Lib.hid hg1; have HT1 := Lib.hid (show Row w1 w.heap.size 26 #[.int .u8 0, .slice none 0 0, .slice none 0 0] from hr1); clear hs1 hg1 hr1)
  go_upto_region 2 with (refine wpList_made rfl rfl hir hirz ?_; intro w2 hs1 hg1 hr1; have HG2 := Lib.hid (grownBy_trans HG1.out hg1); have HT2 := Lib.hid (HT1.out.grown hg1); have HN2 := Lib.hid (show Row w2 w1.heap.size 26 #[.int .u8 0, .slice none 0 0, .slice none 0 0] from hr1); clear hs1 hg1 hr1)
  obtain ⟨bn, hbn⟩ : ∃ bn, bn = w1.heap.size := ⟨_, rfl⟩
  have HBN := Lib.hid (show w.heap.size < bn ∧ bn < w2.heap.size from ⟨by rw [hbn]; exact HT1.out.lt, by rw [hbn]; exact HN2.out.lt⟩)
  rw [← hbn] at HN2 ⊢
  clear hbn HG1 HT1
  have k0 := HK0.out w2 HG2.out
  go_upto_region 4 with fail
  go_upto_region 5 with (refine wpList_fresh rfl rfl rfl rfl rfl hir hirz hirs #[.int .u8 5, .slice none 0 0, .slice none 0 0] rfl rfl rfl (by simp [Value.oneCell']) ?_; intro w3 hs2 hg2 hr2; have HG3 := Lib.hid (grownBy_trans HG2.out hg2); have HR3 := Lib.hid (show Row w3 w2.heap.size 26 #[.int .u8 5, .slice none 0 0, .slice none 0 0] from hr2); have HT3 := Lib.hid (HT2.out.grown hg2); have HN3 := Lib.hid (HN2.out.grown hg2); clear hs2 hg2 hr2)
  obtain ⟨bo, hbo⟩ : ∃ bo, bo = w2.heap.size := ⟨_, rfl⟩
  have HBO := Lib.hid (show w.heap.size < bn ∧ bn < bo ∧ bo < w3.heap.size from ⟨HBN.out.1, by rw [hbo]; exact HBN.out.2, by rw [hbo]; exact HR3.out.lt⟩)
  rw [← hbo] at HR3 ⊢
  clear hbo k0 HT2 HN2 HG2 HBN
  have d0 := Row.cell HR3.out 0
  simp at d0
  go_upto_region 25 with (go_at_call 63; refine (HAT.out w3 HG3.out).mono ?_; rintro e w' ⟨rfl, rfl⟩)
  refine wp_normal ?_
  refine wp_regionX (fun u => w3.grownBy u none) 7 (by kernel_rfl) (grownBy_drewN w3 1 none) ?_
  refine wpX_take 0 (v := .pointer (some ⟨bo, 2, none⟩)) (oi := { dst := some 129, op := Op.fieldAddr 26 (Operand.tmp 6) 2, type := 0, pos := "ref.go:242", after := #[], guard := none }) (oL := oLWireRefD0) (clo_grown _) rfl rfl rfl (by kernel_rfl) (by kernel_rfl) (by kernel_rfl) (by kernel_rfl) (by kernel_rfl) (fun _ _ _ h => by cases h.1) (YG.val (by rfl) (fun _ _ => by go_simp)) ?_
  simp only [Act.put, List.setIfInBounds_toArray, List.set_cons_zero, List.set_cons_succ]
  refine wpX_take 1 (v := .slice none 0 0) (oi := { dst := some 130, op := Op.load 24 (Operand.tmp 129), type := 24, pos := "ref.go:242", after := #[{ on := 0, ground := Ground.data }], guard := none }) (oL := oLWireRefD0) (clo_grown _) rfl rfl rfl (by kernel_rfl) (by kernel_rfl) (by kernel_rfl) (by kernel_rfl) (by kernel_rfl) (fun _ _ _ h => by cases h.1) (YG.val (by rfl) (fun u hu => by have c := Row.cell (HR3.out.grown hu) 2; simp at c; go_simp)) ?_
  simp only [Act.put, List.setIfInBounds_toArray, List.set_cons_zero, List.set_cons_succ]
  refine wpX_take 2 (v := .slice (some ⟨b, off, none⟩) n c) (oi := { dst := some 131, op := Op.move (Operand.tmp 0), type := 24, pos := "ref.go:242", after := #[], guard := none }) (oL := oLWireRefD0) (clo_grown _) rfl rfl rfl (by kernel_rfl) (by kernel_rfl) (by kernel_rfl) (by kernel_rfl) (by kernel_rfl) (fun _ _ _ h => by cases h.1) (YG.val (by rfl) (fun _ _ => by go_simp)) ?_
  simp only [Act.put, List.setIfInBounds_toArray, List.set_cons_zero, List.set_cons_succ]
  refine wpX_take 3 (v := .int .i64 5) (oi := { dst := some 132, op := Op.move (Operand.tmp 7), type := 3, pos := "ref.go:242", after := #[], guard := none }) (oL := oLWireRefD0) (clo_grown _) rfl rfl rfl (by kernel_rfl) (by kernel_rfl) (by kernel_rfl) (by kernel_rfl) (by kernel_rfl) (fun _ _ _ h => by cases h.1) (YG.val (by rfl) (fun _ _ => by go_simp)) ?_
  simp only [Act.put, List.setIfInBounds_toArray, List.set_cons_zero, List.set_cons_succ]
  refine wpX_take 4 (v := .slice (midA (some ⟨b, off, none⟩) 5 c) Y (c - 5)) (oi := { dst := some 133, op := Op.slice 24 (Operand.tmp 131) (some (Operand.tmp 132)) none none, type := 24, pos := "ref.go:242", after := #[{ on := 2, ground := Ground.data }, { on := 3, ground := Ground.data }], guard := none }) (oL := oLWireRefD0) (clo_grown _) rfl rfl rfl (by kernel_rfl) (by kernel_rfl) (by kernel_rfl) (by kernel_rfl) (by kernel_rfl) (fun _ _ _ h => by cases h.1) (YG.val (by rfl) (fun u hu => run_suf_op3 u _ (.tmp 131) _ rfl (some ⟨b, off, none⟩) n c 5 Y rfl rfl HY5.out.1 HY5.out.2)) ?_
  simp only [Act.put, List.setIfInBounds_toArray, List.set_cons_zero, List.set_cons_succ]
  refine wpX_step 5 (o := { dst := some 134, op := Op.call { callee := Callee.builtin Builtin.append, args := #[Operand.tmp 130, Operand.tmp 133], argTypes := #[24, 24] }, type := 24, pos := "ref.go:242", after := #[{ on := 1, ground := Ground.data }, { on := 4, ground := Ground.data }], guard := none }) rfl rfl (by kernel_rfl) (by rfl) (fun u2 hS2 K hK => ?_)
  have HKK := Lib.hid hK
  have HS2 := Lib.hid hS2
  clear hK hS2
  obtain ⟨aw9, cw9, w8, hrun, ho8, hc8, hi8⟩ := run_appBL u2 (base := w3.heap.size) (a := none) (n := 0) (c := 0) (l := []) (Own.nil _ _ _ _ _) (midA (some ⟨b, off, none⟩) 5 c) (Y) (c - 5) (l.drop 5) ((HSL.out u2 (grownBy_trans HG3.out HS2.out))) (HSM.out) (by omega) HS2.out.size 24
  have g8 : u2.grownBy w8 none := Ch.fresh (World.grownBy.refl u2 none) hc8 (fun g _ h => by have := h.1; omega)
  have HO8 := Lib.hid ho8
  have G8 := Lib.hid (grownBy_trans HS2.out g8)
  refine wp_val_op (v := .slice aw9 (0 + Y) cw9) (w1 := w8) (run_app_op u2 w8 _ (.tmp 130) (.tmp 133) rfl _ hrun) ?_
  refine HKK.out (fun u => w8.grownBy u none) _ _ (World.grownBy.refl _ _) (fun u h => grownBy_trans G8.out h) (clo_grown w8) ?_
  simp only [Act.put, List.setIfInBounds_toArray, List.set_cons_zero, List.set_cons_succ]
  clear HKK HS2 hrun ho8 hc8 hi8 g8
  refine wpX_take 6 (v := .pointer (some ⟨bo, 2, none⟩)) (oi := { dst := some 135, op := Op.fieldAddr 26 (Operand.tmp 6) 2, type := 0, pos := "ref.go:242", after := #[{ on := 0, ground := Ground.phase }, { on := 1, ground := Ground.phase }, { on := 2, ground := Ground.phase }, { on := 3, ground := Ground.phase }, { on := 4, ground := Ground.phase }, { on := 5, ground := Ground.phase }], guard := none }) (oL := oLWireRefD0) (clo_grown _) rfl rfl rfl (by kernel_rfl) (by kernel_rfl) (by kernel_rfl) (by kernel_rfl) (by kernel_rfl) (fun _ _ _ h => by cases h.1) (YG.val (by rfl) (fun _ _ => by go_simp)) ?_
  simp only [Act.put, List.setIfInBounds_toArray, List.set_cons_zero, List.set_cons_succ]
  refine wpX_last (oL := { dst := none, op := Op.store 24 (Operand.tmp 135) (Operand.tmp 134), type := 0, pos := "ref.go:242", after := #[{ on := 6, ground := Ground.data }, { on := 5, ground := Ground.data }, { on := 5, ground := Ground.chain }, { on := 0, ground := Ground.phase }, { on := 1, ground := Ground.phase }, { on := 2, ground := Ground.phase }, { on := 3, ground := Ground.phase }, { on := 4, ground := Ground.phase }, { on := 5, ground := Ground.phase }], guard := none }) rfl (by kernel_rfl) (by kernel_rfl) (by rfl) (fun u4 hS4 K4 hK4 => ?_)
  have hrow4 := HR3.out.grown (grownBy_trans G8.out hS4)
  have hc4 := Row.cell hrow4 2
  have hf4 := Row.frozen hrow4 2
  simp at hc4
  refine wp_skip_op (w1 := u4.setCell ⟨bo, 2, none⟩ (.slice aw9 (0 + Y) cw9)) (by go_simp) (hK4 _ _ ?_)
  simp only [Act.put]
  obtain ⟨w9, hw9⟩ : ∃ w9, w9 = u4.setCell ⟨bo, 2, none⟩ (.slice aw9 (0 + Y) cw9) := ⟨_, rfl⟩
  rw [← hw9]
  have hg9 : u4.grownBy w9 (some bo) := hw9 ▸ grownBy_setCell _ _ _ _
  have Rw9 := Lib.hid (show Row w9 bo 26 #[.int .u8 5, .slice none 0 0, .slice aw9 (0 + Y) cw9] from hw9 ▸ Row.setc hrow4 2 _)
  have hown4 := BOwn.grown HO8.out hS4
  have hnb := row_in hrow4 hown4 (by decide)
  have Ow9 := Lib.hid (show BOwn w9 w3.heap.size aw9 (0 + Y) cw9 (l.drop 5) from by
    have h := Own.ch hown4 (Ch.ofSome (S := fun x => x = bo) hg9 rfl) (fun h0 g e h => by subst h; exact hnb ⟨h0, e⟩)
    rw [List.nil_append] at h
    exact h)
  have Cw9 := Lib.hid (show w3.grownBy w9 (some bo) from grownBy_trans (grownBy_some (grownBy_trans G8.out hS4) _) hg9)
  clear hS4 hK4 hrow4 hc4 hf4 hw9 hg9 hown4 hnb HO8 G8
  refine ⟨by first | rfl | trivial, ?_⟩
  have HT9 := Lib.hid (HT3.out.grownNe Cw9.out (by have := HBO.out; omega))
  have HN9 := Lib.hid (HN3.out.grownNe Cw9.out (by have := HBO.out; omega))
  have HG9 := Lib.hid (grownBy_old HG3.out Cw9.out (by have := HBO.out; omega))
  go_wp2_with (first | (refine wpList_load_row rfl 26 _ rfl bn rfl 26 #[.int .u8 0, .slice none 0 0, .slice none 0 0] (0, 0) _ HN9.out Try.underlying26 rfl (by kernel_rfl) ?_) | (refine wpList_putrow rfl rfl w.heap.size rfl #[.int .u8 0, .slice none 0 0, .slice none 0 0] rfl HT9.out (by kernel_rfl) rfl (by simp [Value.oneCell']) ?_; intro W5 hg5 hr5; have HG5 := Lib.hid hg5; have HR5 := Lib.hid hr5; clear hg5 hr5))
  refine bodyPost_ret (results_ctt rfl _ _ w.heap.size 26 #[.int .u8 0, .slice none 0 0, .slice none 0 0] (0, 0) _ _ _ rfl rfl rfl HR5.out Try.underlying26 rfl (by kernel_rfl)) rfl ?_
  exact repP_err (n) _ (rfl) (grownBy_old HG9.out HG5.out (Nat.le_refl _))
set_option maxRecDepth 100000 in
set_option maxHeartbeats 4000000 in
theorem refRep_5e (a : Option Addr) (n c : Nat) (l : List UInt8) (w : World) (hl : BLies w a l) (hn : l.length = n) (hnm : n ≤ 140737488355328) (hc : n ≤ c) (b off : Nat) (ha : a = some ⟨b, off, none⟩) (hK : (5 : Int) = ((l.getD 0 0).toNat : Int)) (h1 : 1 ≤ n) (hs : 5 ≤ n) (hX0 : 1 ≤ getN l 1 4 ∧ getN l 1 4 ≤ 131072) (hnX : 5 + getN l 1 4 < n) :
    Calls Try.prog 39 #[.slice a n c] w fun e w' => RepP w (decR l) e w' := by
  have hne : ¬ (l = [] ∨ (l.getD 0 0).toNat < 1 ∨ 7 < (l.getD 0 0).toNat) := fun h => by
    rcases h with h | h
    · rw [h] at hn; simp at hn; omega
    · omega
  have hce : ∀ W, w.grownBy W none → ∀ k, k < n → W.cell? ⟨b, off + k, none⟩ = some (.int .u8 ((l.getD k 0).toNat : Int)) := fun W hW k hk => by
    obtain ⟨b', off', e, h⟩ := bytes_cells (hl.grown hW) (by omega)
    rw [ha] at e
    injection e with e
    injection e with e1 e2
    subst e1; subst e2
    exact h k (by omega)
  have HC := Lib.hid hce
  have h00 : ((n : Int) == 0) = false := by rw [beq_eq_false_iff_ne]; omega
  have hK0 : ∀ W, w.grownBy W none → W.cell? ⟨b, off, none⟩ = some (.int .u8 5) := fun W hW => by rw [hK]; exact hce W hW 0 (by omega)
  have HK0 := Lib.hid hK0
  subst ha
  clear hce hK0
  have hd : decR l = .error (5 + getN l 1 4) := by unfold decR; rw [if_neg hne, if_neg (by omega), if_pos (by omega), if_neg (by omega), if_neg (by omega), if_pos (by omega), hn, show min n (5 + getN l 1 4) = 5 + getN l 1 4 by omega]
  rw [hd]
  obtain ⟨Y, hY⟩ : ∃ Y, n - 5 = Y := ⟨_, rfl⟩
  have HY5 := Lib.hid (show 5 ≤ n ∧ n - 5 = Y from ⟨hs, hY⟩)
  have hYb : Y ≤ 140737488355328 := by omega
  have HSL := Lib.hid (show ∀ W, w.grownBy W none → BLies W (midA (some ⟨b, off, none⟩) 5 c) (l.drop 5) from fun W hW => suf_lies (hl.grown hW) 5 c (by omega) (by omega))
  have HSM := Lib.hid (show (l.drop 5).length = Y by rw [List.length_drop]; omega)
  obtain ⟨X, hX⟩ : ∃ X, X = getN l 1 4 := ⟨_, rfl⟩
  have hXlt : X < 4294967296 := by rw [hX]; exact getN_lt l 1
  have hat : ∀ W, w.grownBy W none → Calls Try.prog 63 #[.slice (some ⟨b, off, none⟩) n c, .int .i64 1, .int .i64 4] W fun e w' => e = .returned (.int .u64 (X : Int)) ∧ W = w' := fun W hW => by
    rw [hX]
    exact refAt_n (some ⟨b, off, none⟩) n c 1 4 l W (hl.grown hW) hn (by unfold maxLen; omega) (by omega) (by omega)
  have HAT := Lib.hid hat
  clear hat
  have i1 : decide ((n : Int) < (5 : Int)) = false := decide_eq_false (by omega)
  have i1' : decide (n < 5) = false := decide_eq_false (by omega)
  have x1 : decide ((X : Int) < (1 : Int)) = false := decide_eq_false (by omega)
  have x1' : decide (X < 1) = false := decide_eq_false (by omega)
  have x3 : decide ((131072 : Int) < (X : Int)) = false := decide_eq_false (by omega)
  have x3' : decide (131072 < X) = false := decide_eq_false (by omega)
  have hwn : IntKind.u64.wrap (n : Int) = (n : Int) := IntWalk.u64_in _ (by omega)
  rw [← hX] at hnX ⊢
  have hw5 : IntKind.u64.wrap (5 + (X : Int)) = 5 + (X : Int) := IntWalk.u64_in _ (by omega)
  have hwi : IntKind.i64.wrap (5 + (X : Int)) = 5 + (X : Int) := IntWalk.i64_in _ (by omega)
  have j1 : decide ((n : Int) < 5 + (X : Int)) = false := decide_eq_false (by omega)
  have j2 : decide (5 + (X : Int) < (n : Int)) = true := decide_eq_true (by omega)
  have HX5 := Lib.hid hnX
  clear hl hn hd hK hne hX hX0 hY hs hnX
  obtain ⟨ir, zr, hir, hirz, hirs, hz⟩ := info_rep
  subst hz
  go_enter Try.func39, Try.ntmps39
  go_upto_region 1 with (refine wpList_made rfl rfl hir hirz ?_; intro w1 hs1 hg1 hr1; have HG1 := Lib.hid hg1; have HT1 := Lib.hid (show Row w1 w.heap.size 26 #[.int .u8 0, .slice none 0 0, .slice none 0 0] from hr1); clear hs1 hg1 hr1)
  go_upto_region 2 with (refine wpList_made rfl rfl hir hirz ?_; intro w2 hs1 hg1 hr1; have HG2 := Lib.hid (grownBy_trans HG1.out hg1); have HT2 := Lib.hid (HT1.out.grown hg1); have HN2 := Lib.hid (show Row w2 w1.heap.size 26 #[.int .u8 0, .slice none 0 0, .slice none 0 0] from hr1); clear hs1 hg1 hr1)
  obtain ⟨bn, hbn⟩ : ∃ bn, bn = w1.heap.size := ⟨_, rfl⟩
  have HBN := Lib.hid (show w.heap.size < bn ∧ bn < w2.heap.size from ⟨by rw [hbn]; exact HT1.out.lt, by rw [hbn]; exact HN2.out.lt⟩)
  rw [← hbn] at HN2 ⊢
  clear hbn HG1 HT1
  have k0 := HK0.out w2 HG2.out
  go_upto_region 4 with fail
  go_upto_region 5 with (refine wpList_fresh rfl rfl rfl rfl rfl hir hirz hirs #[.int .u8 5, .slice none 0 0, .slice none 0 0] rfl rfl rfl (by simp [Value.oneCell']) ?_; intro w3 hs2 hg2 hr2; have HG3 := Lib.hid (grownBy_trans HG2.out hg2); have HR3 := Lib.hid (show Row w3 w2.heap.size 26 #[.int .u8 5, .slice none 0 0, .slice none 0 0] from hr2); have HT3 := Lib.hid (HT2.out.grown hg2); have HN3 := Lib.hid (HN2.out.grown hg2); clear hs2 hg2 hr2)
  obtain ⟨bo, hbo⟩ : ∃ bo, bo = w2.heap.size := ⟨_, rfl⟩
  have HBO := Lib.hid (show w.heap.size < bn ∧ bn < bo ∧ bo < w3.heap.size from ⟨HBN.out.1, by rw [hbo]; exact HBN.out.2, by rw [hbo]; exact HR3.out.lt⟩)
  rw [← hbo] at HR3 ⊢
  clear hbo k0 HT2 HN2 HG2 HBN
  have d0 := Row.cell HR3.out 0
  simp at d0
  go_upto_region 25 with (go_at_call 63; refine (HAT.out w3 HG3.out).mono ?_; rintro e w' ⟨rfl, rfl⟩)
  refine wp_normal ?_
  refine wp_regionX (fun u => w3.grownBy u none) 7 (by kernel_rfl) (grownBy_drewN w3 1 none) ?_
  refine wpX_take 0 (v := .pointer (some ⟨bo, 2, none⟩)) (oi := { dst := some 129, op := Op.fieldAddr 26 (Operand.tmp 6) 2, type := 0, pos := "ref.go:242", after := #[], guard := none }) (oL := oLWireRefD0) (clo_grown _) rfl rfl rfl (by kernel_rfl) (by kernel_rfl) (by kernel_rfl) (by kernel_rfl) (by kernel_rfl) (fun _ _ _ h => by cases h.1) (YG.val (by rfl) (fun _ _ => by go_simp)) ?_
  simp only [Act.put, List.setIfInBounds_toArray, List.set_cons_zero, List.set_cons_succ]
  refine wpX_take 1 (v := .slice none 0 0) (oi := { dst := some 130, op := Op.load 24 (Operand.tmp 129), type := 24, pos := "ref.go:242", after := #[{ on := 0, ground := Ground.data }], guard := none }) (oL := oLWireRefD0) (clo_grown _) rfl rfl rfl (by kernel_rfl) (by kernel_rfl) (by kernel_rfl) (by kernel_rfl) (by kernel_rfl) (fun _ _ _ h => by cases h.1) (YG.val (by rfl) (fun u hu => by have c := Row.cell (HR3.out.grown hu) 2; simp at c; go_simp)) ?_
  simp only [Act.put, List.setIfInBounds_toArray, List.set_cons_zero, List.set_cons_succ]
  refine wpX_take 2 (v := .slice (some ⟨b, off, none⟩) n c) (oi := { dst := some 131, op := Op.move (Operand.tmp 0), type := 24, pos := "ref.go:242", after := #[], guard := none }) (oL := oLWireRefD0) (clo_grown _) rfl rfl rfl (by kernel_rfl) (by kernel_rfl) (by kernel_rfl) (by kernel_rfl) (by kernel_rfl) (fun _ _ _ h => by cases h.1) (YG.val (by rfl) (fun _ _ => by go_simp)) ?_
  simp only [Act.put, List.setIfInBounds_toArray, List.set_cons_zero, List.set_cons_succ]
  refine wpX_take 3 (v := .int .i64 5) (oi := { dst := some 132, op := Op.move (Operand.tmp 7), type := 3, pos := "ref.go:242", after := #[], guard := none }) (oL := oLWireRefD0) (clo_grown _) rfl rfl rfl (by kernel_rfl) (by kernel_rfl) (by kernel_rfl) (by kernel_rfl) (by kernel_rfl) (fun _ _ _ h => by cases h.1) (YG.val (by rfl) (fun _ _ => by go_simp)) ?_
  simp only [Act.put, List.setIfInBounds_toArray, List.set_cons_zero, List.set_cons_succ]
  refine wpX_take 4 (v := .slice (midA (some ⟨b, off, none⟩) 5 c) Y (c - 5)) (oi := { dst := some 133, op := Op.slice 24 (Operand.tmp 131) (some (Operand.tmp 132)) none none, type := 24, pos := "ref.go:242", after := #[{ on := 2, ground := Ground.data }, { on := 3, ground := Ground.data }], guard := none }) (oL := oLWireRefD0) (clo_grown _) rfl rfl rfl (by kernel_rfl) (by kernel_rfl) (by kernel_rfl) (by kernel_rfl) (by kernel_rfl) (fun _ _ _ h => by cases h.1) (YG.val (by rfl) (fun u hu => run_suf_op3 u _ (.tmp 131) _ rfl (some ⟨b, off, none⟩) n c 5 Y rfl rfl HY5.out.1 HY5.out.2)) ?_
  simp only [Act.put, List.setIfInBounds_toArray, List.set_cons_zero, List.set_cons_succ]
  refine wpX_step 5 (o := { dst := some 134, op := Op.call { callee := Callee.builtin Builtin.append, args := #[Operand.tmp 130, Operand.tmp 133], argTypes := #[24, 24] }, type := 24, pos := "ref.go:242", after := #[{ on := 1, ground := Ground.data }, { on := 4, ground := Ground.data }], guard := none }) rfl rfl (by kernel_rfl) (by rfl) (fun u2 hS2 K hK => ?_)
  have HKK := Lib.hid hK
  have HS2 := Lib.hid hS2
  clear hK hS2
  obtain ⟨aw9, cw9, w8, hrun, ho8, hc8, hi8⟩ := run_appBL u2 (base := w3.heap.size) (a := none) (n := 0) (c := 0) (l := []) (Own.nil _ _ _ _ _) (midA (some ⟨b, off, none⟩) 5 c) (Y) (c - 5) (l.drop 5) ((HSL.out u2 (grownBy_trans HG3.out HS2.out))) (HSM.out) (by omega) HS2.out.size 24
  have g8 : u2.grownBy w8 none := Ch.fresh (World.grownBy.refl u2 none) hc8 (fun g _ h => by have := h.1; omega)
  have HO8 := Lib.hid ho8
  have G8 := Lib.hid (grownBy_trans HS2.out g8)
  refine wp_val_op (v := .slice aw9 (0 + Y) cw9) (w1 := w8) (run_app_op u2 w8 _ (.tmp 130) (.tmp 133) rfl _ hrun) ?_
  refine HKK.out (fun u => w8.grownBy u none) _ _ (World.grownBy.refl _ _) (fun u h => grownBy_trans G8.out h) (clo_grown w8) ?_
  simp only [Act.put, List.setIfInBounds_toArray, List.set_cons_zero, List.set_cons_succ]
  clear HKK HS2 hrun ho8 hc8 hi8 g8
  refine wpX_take 6 (v := .pointer (some ⟨bo, 2, none⟩)) (oi := { dst := some 135, op := Op.fieldAddr 26 (Operand.tmp 6) 2, type := 0, pos := "ref.go:242", after := #[{ on := 0, ground := Ground.phase }, { on := 1, ground := Ground.phase }, { on := 2, ground := Ground.phase }, { on := 3, ground := Ground.phase }, { on := 4, ground := Ground.phase }, { on := 5, ground := Ground.phase }], guard := none }) (oL := oLWireRefD0) (clo_grown _) rfl rfl rfl (by kernel_rfl) (by kernel_rfl) (by kernel_rfl) (by kernel_rfl) (by kernel_rfl) (fun _ _ _ h => by cases h.1) (YG.val (by rfl) (fun _ _ => by go_simp)) ?_
  simp only [Act.put, List.setIfInBounds_toArray, List.set_cons_zero, List.set_cons_succ]
  refine wpX_last (oL := { dst := none, op := Op.store 24 (Operand.tmp 135) (Operand.tmp 134), type := 0, pos := "ref.go:242", after := #[{ on := 6, ground := Ground.data }, { on := 5, ground := Ground.data }, { on := 5, ground := Ground.chain }, { on := 0, ground := Ground.phase }, { on := 1, ground := Ground.phase }, { on := 2, ground := Ground.phase }, { on := 3, ground := Ground.phase }, { on := 4, ground := Ground.phase }, { on := 5, ground := Ground.phase }], guard := none }) rfl (by kernel_rfl) (by kernel_rfl) (by rfl) (fun u4 hS4 K4 hK4 => ?_)
  have hrow4 := HR3.out.grown (grownBy_trans G8.out hS4)
  have hc4 := Row.cell hrow4 2
  have hf4 := Row.frozen hrow4 2
  simp at hc4
  refine wp_skip_op (w1 := u4.setCell ⟨bo, 2, none⟩ (.slice aw9 (0 + Y) cw9)) (by go_simp) (hK4 _ _ ?_)
  simp only [Act.put]
  obtain ⟨w9, hw9⟩ : ∃ w9, w9 = u4.setCell ⟨bo, 2, none⟩ (.slice aw9 (0 + Y) cw9) := ⟨_, rfl⟩
  rw [← hw9]
  have hg9 : u4.grownBy w9 (some bo) := hw9 ▸ grownBy_setCell _ _ _ _
  have Rw9 := Lib.hid (show Row w9 bo 26 #[.int .u8 5, .slice none 0 0, .slice aw9 (0 + Y) cw9] from hw9 ▸ Row.setc hrow4 2 _)
  have hown4 := BOwn.grown HO8.out hS4
  have hnb := row_in hrow4 hown4 (by decide)
  have Ow9 := Lib.hid (show BOwn w9 w3.heap.size aw9 (0 + Y) cw9 (l.drop 5) from by
    have h := Own.ch hown4 (Ch.ofSome (S := fun x => x = bo) hg9 rfl) (fun h0 g e h => by subst h; exact hnb ⟨h0, e⟩)
    rw [List.nil_append] at h
    exact h)
  have Cw9 := Lib.hid (show w3.grownBy w9 (some bo) from grownBy_trans (grownBy_some (grownBy_trans G8.out hS4) _) hg9)
  clear hS4 hK4 hrow4 hc4 hf4 hw9 hg9 hown4 hnb HO8 G8
  refine ⟨by first | rfl | trivial, ?_⟩
  have HT9 := Lib.hid (HT3.out.grownNe Cw9.out (by have := HBO.out; omega))
  have HN9 := Lib.hid (HN3.out.grownNe Cw9.out (by have := HBO.out; omega))
  have HG9 := Lib.hid (grownBy_old HG3.out Cw9.out (by have := HBO.out; omega))
  go_wp2_with (first | (refine wpList_load_row rfl 26 _ rfl bn rfl 26 #[.int .u8 0, .slice none 0 0, .slice none 0 0] (0, 0) _ HN9.out Try.underlying26 rfl (by kernel_rfl) ?_) | (refine wpList_putrow rfl rfl w.heap.size rfl #[.int .u8 0, .slice none 0 0, .slice none 0 0] rfl HT9.out (by kernel_rfl) rfl (by simp [Value.oneCell']) ?_; intro W5 hg5 hr5; have HG5 := Lib.hid hg5; have HR5 := Lib.hid hr5; clear hg5 hr5))
  refine bodyPost_ret (results_ctt rfl _ _ w.heap.size 26 #[.int .u8 0, .slice none 0 0, .slice none 0 0] (0, 0) _ _ _ rfl rfl rfl HR5.out Try.underlying26 rfl (by kernel_rfl)) rfl ?_
  exact repP_err (5 + X) _ (by omega) (grownBy_old HG9.out HG5.out (Nat.le_refl _))
set_option maxRecDepth 100000 in
set_option maxHeartbeats 4000000 in
theorem refRep_5f (a : Option Addr) (n c : Nat) (l : List UInt8) (w : World) (hl : BLies w a l) (hn : l.length = n) (hnm : n ≤ 140737488355328) (hc : n ≤ c) (b off : Nat) (ha : a = some ⟨b, off, none⟩) (hK : (5 : Int) = ((l.getD 0 0).toNat : Int)) (h1 : 1 ≤ n) (hs : 5 ≤ n) (hX0 : 1 ≤ getN l 1 4 ∧ getN l 1 4 ≤ 131072) (hnX : n = 5 + getN l 1 4) :
    Calls Try.prog 39 #[.slice a n c] w fun e w' => RepP w (decR l) e w' := by
  have hne : ¬ (l = [] ∨ (l.getD 0 0).toNat < 1 ∨ 7 < (l.getD 0 0).toNat) := fun h => by
    rcases h with h | h
    · rw [h] at hn; simp at hn; omega
    · omega
  have hce : ∀ W, w.grownBy W none → ∀ k, k < n → W.cell? ⟨b, off + k, none⟩ = some (.int .u8 ((l.getD k 0).toNat : Int)) := fun W hW k hk => by
    obtain ⟨b', off', e, h⟩ := bytes_cells (hl.grown hW) (by omega)
    rw [ha] at e
    injection e with e
    injection e with e1 e2
    subst e1; subst e2
    exact h k (by omega)
  have HC := Lib.hid hce
  have h00 : ((n : Int) == 0) = false := by rw [beq_eq_false_iff_ne]; omega
  have hK0 : ∀ W, w.grownBy W none → W.cell? ⟨b, off, none⟩ = some (.int .u8 5) := fun W hW => by rw [hK]; exact hce W hW 0 (by omega)
  have HK0 := Lib.hid hK0
  subst ha
  clear hce hK0
  have hd : decR l = .ok ⟨5, [], l.drop 5⟩ := by unfold decR; rw [if_neg hne, if_neg (by omega), if_pos (by omega), if_neg (by omega), if_neg (by omega), if_neg (by omega)]
  rw [hd]
  obtain ⟨Y, hY⟩ : ∃ Y, n - 5 = Y := ⟨_, rfl⟩
  have HY5 := Lib.hid (show 5 ≤ n ∧ n - 5 = Y from ⟨hs, hY⟩)
  have hYb : Y ≤ 140737488355328 := by omega
  have HSL := Lib.hid (show ∀ W, w.grownBy W none → BLies W (midA (some ⟨b, off, none⟩) 5 c) (l.drop 5) from fun W hW => suf_lies (hl.grown hW) 5 c (by omega) (by omega))
  have HSM := Lib.hid (show (l.drop 5).length = Y by rw [List.length_drop]; omega)
  obtain ⟨X, hX⟩ : ∃ X, X = getN l 1 4 := ⟨_, rfl⟩
  have hXlt : X < 4294967296 := by rw [hX]; exact getN_lt l 1
  have hat : ∀ W, w.grownBy W none → Calls Try.prog 63 #[.slice (some ⟨b, off, none⟩) n c, .int .i64 1, .int .i64 4] W fun e w' => e = .returned (.int .u64 (X : Int)) ∧ W = w' := fun W hW => by
    rw [hX]
    exact refAt_n (some ⟨b, off, none⟩) n c 1 4 l W (hl.grown hW) hn (by unfold maxLen; omega) (by omega) (by omega)
  have HAT := Lib.hid hat
  clear hat
  have i1 : decide ((n : Int) < (5 : Int)) = false := decide_eq_false (by omega)
  have i1' : decide (n < 5) = false := decide_eq_false (by omega)
  have x1 : decide ((X : Int) < (1 : Int)) = false := decide_eq_false (by omega)
  have x1' : decide (X < 1) = false := decide_eq_false (by omega)
  have x3 : decide ((131072 : Int) < (X : Int)) = false := decide_eq_false (by omega)
  have x3' : decide (131072 < X) = false := decide_eq_false (by omega)
  have hwn : IntKind.u64.wrap (n : Int) = (n : Int) := IntWalk.u64_in _ (by omega)
  rw [← hX] at hnX
  have hw5 : IntKind.u64.wrap (5 + (X : Int)) = 5 + (X : Int) := IntWalk.u64_in _ (by omega)
  have hwi : IntKind.i64.wrap (5 + (X : Int)) = 5 + (X : Int) := IntWalk.i64_in _ (by omega)
  have j1 : decide ((n : Int) < 5 + (X : Int)) = false := decide_eq_false (by omega)
  have j2 : decide (5 + (X : Int) < (n : Int)) = false := decide_eq_false (by omega)
  have HX5 := Lib.hid hnX
  clear hl hn hd hK hne hX hX0 hY hs hnX
  obtain ⟨ir, zr, hir, hirz, hirs, hz⟩ := info_rep
  subst hz
  go_enter Try.func39, Try.ntmps39
  go_upto_region 1 with (refine wpList_made rfl rfl hir hirz ?_; intro w1 hs1 hg1 hr1; have HG1 := Lib.hid hg1; have HT1 := Lib.hid (show Row w1 w.heap.size 26 #[.int .u8 0, .slice none 0 0, .slice none 0 0] from hr1); clear hs1 hg1 hr1)
  go_upto_region 2 with (refine wpList_made rfl rfl hir hirz ?_; intro w2 hs1 hg1 hr1; have HG2 := Lib.hid (grownBy_trans HG1.out hg1); have HT2 := Lib.hid (HT1.out.grown hg1); have HN2 := Lib.hid (show Row w2 w1.heap.size 26 #[.int .u8 0, .slice none 0 0, .slice none 0 0] from hr1); clear hs1 hg1 hr1)
  obtain ⟨bn, hbn⟩ : ∃ bn, bn = w1.heap.size := ⟨_, rfl⟩
  have HBN := Lib.hid (show w.heap.size < bn ∧ bn < w2.heap.size from ⟨by rw [hbn]; exact HT1.out.lt, by rw [hbn]; exact HN2.out.lt⟩)
  rw [← hbn] at HN2 ⊢
  clear hbn HG1 HT1
  have k0 := HK0.out w2 HG2.out
  go_upto_region 4 with fail
  go_upto_region 5 with (refine wpList_fresh rfl rfl rfl rfl rfl hir hirz hirs #[.int .u8 5, .slice none 0 0, .slice none 0 0] rfl rfl rfl (by simp [Value.oneCell']) ?_; intro w3 hs2 hg2 hr2; have HG3 := Lib.hid (grownBy_trans HG2.out hg2); have HR3 := Lib.hid (show Row w3 w2.heap.size 26 #[.int .u8 5, .slice none 0 0, .slice none 0 0] from hr2); have HT3 := Lib.hid (HT2.out.grown hg2); have HN3 := Lib.hid (HN2.out.grown hg2); clear hs2 hg2 hr2)
  obtain ⟨bo, hbo⟩ : ∃ bo, bo = w2.heap.size := ⟨_, rfl⟩
  have HBO := Lib.hid (show w.heap.size < bn ∧ bn < bo ∧ bo < w3.heap.size from ⟨HBN.out.1, by rw [hbo]; exact HBN.out.2, by rw [hbo]; exact HR3.out.lt⟩)
  rw [← hbo] at HR3 ⊢
  clear hbo k0 HT2 HN2 HG2 HBN
  have d0 := Row.cell HR3.out 0
  simp at d0
  go_upto_region 25 with (go_at_call 63; refine (HAT.out w3 HG3.out).mono ?_; rintro e w' ⟨rfl, rfl⟩)
  refine wp_normal ?_
  refine wp_regionX (fun u => w3.grownBy u none) 7 (by kernel_rfl) (grownBy_drewN w3 1 none) ?_
  refine wpX_take 0 (v := .pointer (some ⟨bo, 2, none⟩)) (oi := { dst := some 129, op := Op.fieldAddr 26 (Operand.tmp 6) 2, type := 0, pos := "ref.go:242", after := #[], guard := none }) (oL := oLWireRefD0) (clo_grown _) rfl rfl rfl (by kernel_rfl) (by kernel_rfl) (by kernel_rfl) (by kernel_rfl) (by kernel_rfl) (fun _ _ _ h => by cases h.1) (YG.val (by rfl) (fun _ _ => by go_simp)) ?_
  simp only [Act.put, List.setIfInBounds_toArray, List.set_cons_zero, List.set_cons_succ]
  refine wpX_take 1 (v := .slice none 0 0) (oi := { dst := some 130, op := Op.load 24 (Operand.tmp 129), type := 24, pos := "ref.go:242", after := #[{ on := 0, ground := Ground.data }], guard := none }) (oL := oLWireRefD0) (clo_grown _) rfl rfl rfl (by kernel_rfl) (by kernel_rfl) (by kernel_rfl) (by kernel_rfl) (by kernel_rfl) (fun _ _ _ h => by cases h.1) (YG.val (by rfl) (fun u hu => by have c := Row.cell (HR3.out.grown hu) 2; simp at c; go_simp)) ?_
  simp only [Act.put, List.setIfInBounds_toArray, List.set_cons_zero, List.set_cons_succ]
  refine wpX_take 2 (v := .slice (some ⟨b, off, none⟩) n c) (oi := { dst := some 131, op := Op.move (Operand.tmp 0), type := 24, pos := "ref.go:242", after := #[], guard := none }) (oL := oLWireRefD0) (clo_grown _) rfl rfl rfl (by kernel_rfl) (by kernel_rfl) (by kernel_rfl) (by kernel_rfl) (by kernel_rfl) (fun _ _ _ h => by cases h.1) (YG.val (by rfl) (fun _ _ => by go_simp)) ?_
  simp only [Act.put, List.setIfInBounds_toArray, List.set_cons_zero, List.set_cons_succ]
  refine wpX_take 3 (v := .int .i64 5) (oi := { dst := some 132, op := Op.move (Operand.tmp 7), type := 3, pos := "ref.go:242", after := #[], guard := none }) (oL := oLWireRefD0) (clo_grown _) rfl rfl rfl (by kernel_rfl) (by kernel_rfl) (by kernel_rfl) (by kernel_rfl) (by kernel_rfl) (fun _ _ _ h => by cases h.1) (YG.val (by rfl) (fun _ _ => by go_simp)) ?_
  simp only [Act.put, List.setIfInBounds_toArray, List.set_cons_zero, List.set_cons_succ]
  refine wpX_take 4 (v := .slice (midA (some ⟨b, off, none⟩) 5 c) Y (c - 5)) (oi := { dst := some 133, op := Op.slice 24 (Operand.tmp 131) (some (Operand.tmp 132)) none none, type := 24, pos := "ref.go:242", after := #[{ on := 2, ground := Ground.data }, { on := 3, ground := Ground.data }], guard := none }) (oL := oLWireRefD0) (clo_grown _) rfl rfl rfl (by kernel_rfl) (by kernel_rfl) (by kernel_rfl) (by kernel_rfl) (by kernel_rfl) (fun _ _ _ h => by cases h.1) (YG.val (by rfl) (fun u hu => run_suf_op3 u _ (.tmp 131) _ rfl (some ⟨b, off, none⟩) n c 5 Y rfl rfl HY5.out.1 HY5.out.2)) ?_
  simp only [Act.put, List.setIfInBounds_toArray, List.set_cons_zero, List.set_cons_succ]
  refine wpX_step 5 (o := { dst := some 134, op := Op.call { callee := Callee.builtin Builtin.append, args := #[Operand.tmp 130, Operand.tmp 133], argTypes := #[24, 24] }, type := 24, pos := "ref.go:242", after := #[{ on := 1, ground := Ground.data }, { on := 4, ground := Ground.data }], guard := none }) rfl rfl (by kernel_rfl) (by rfl) (fun u2 hS2 K hK => ?_)
  have HKK := Lib.hid hK
  have HS2 := Lib.hid hS2
  clear hK hS2
  obtain ⟨aw9, cw9, w8, hrun, ho8, hc8, hi8⟩ := run_appBL u2 (base := w3.heap.size) (a := none) (n := 0) (c := 0) (l := []) (Own.nil _ _ _ _ _) (midA (some ⟨b, off, none⟩) 5 c) (Y) (c - 5) (l.drop 5) ((HSL.out u2 (grownBy_trans HG3.out HS2.out))) (HSM.out) (by omega) HS2.out.size 24
  have g8 : u2.grownBy w8 none := Ch.fresh (World.grownBy.refl u2 none) hc8 (fun g _ h => by have := h.1; omega)
  have HO8 := Lib.hid ho8
  have G8 := Lib.hid (grownBy_trans HS2.out g8)
  refine wp_val_op (v := .slice aw9 (0 + Y) cw9) (w1 := w8) (run_app_op u2 w8 _ (.tmp 130) (.tmp 133) rfl _ hrun) ?_
  refine HKK.out (fun u => w8.grownBy u none) _ _ (World.grownBy.refl _ _) (fun u h => grownBy_trans G8.out h) (clo_grown w8) ?_
  simp only [Act.put, List.setIfInBounds_toArray, List.set_cons_zero, List.set_cons_succ]
  clear HKK HS2 hrun ho8 hc8 hi8 g8
  refine wpX_take 6 (v := .pointer (some ⟨bo, 2, none⟩)) (oi := { dst := some 135, op := Op.fieldAddr 26 (Operand.tmp 6) 2, type := 0, pos := "ref.go:242", after := #[{ on := 0, ground := Ground.phase }, { on := 1, ground := Ground.phase }, { on := 2, ground := Ground.phase }, { on := 3, ground := Ground.phase }, { on := 4, ground := Ground.phase }, { on := 5, ground := Ground.phase }], guard := none }) (oL := oLWireRefD0) (clo_grown _) rfl rfl rfl (by kernel_rfl) (by kernel_rfl) (by kernel_rfl) (by kernel_rfl) (by kernel_rfl) (fun _ _ _ h => by cases h.1) (YG.val (by rfl) (fun _ _ => by go_simp)) ?_
  simp only [Act.put, List.setIfInBounds_toArray, List.set_cons_zero, List.set_cons_succ]
  refine wpX_last (oL := { dst := none, op := Op.store 24 (Operand.tmp 135) (Operand.tmp 134), type := 0, pos := "ref.go:242", after := #[{ on := 6, ground := Ground.data }, { on := 5, ground := Ground.data }, { on := 5, ground := Ground.chain }, { on := 0, ground := Ground.phase }, { on := 1, ground := Ground.phase }, { on := 2, ground := Ground.phase }, { on := 3, ground := Ground.phase }, { on := 4, ground := Ground.phase }, { on := 5, ground := Ground.phase }], guard := none }) rfl (by kernel_rfl) (by kernel_rfl) (by rfl) (fun u4 hS4 K4 hK4 => ?_)
  have hrow4 := HR3.out.grown (grownBy_trans G8.out hS4)
  have hc4 := Row.cell hrow4 2
  have hf4 := Row.frozen hrow4 2
  simp at hc4
  refine wp_skip_op (w1 := u4.setCell ⟨bo, 2, none⟩ (.slice aw9 (0 + Y) cw9)) (by go_simp) (hK4 _ _ ?_)
  simp only [Act.put]
  obtain ⟨w9, hw9⟩ : ∃ w9, w9 = u4.setCell ⟨bo, 2, none⟩ (.slice aw9 (0 + Y) cw9) := ⟨_, rfl⟩
  rw [← hw9]
  have hg9 : u4.grownBy w9 (some bo) := hw9 ▸ grownBy_setCell _ _ _ _
  have Rw9 := Lib.hid (show Row w9 bo 26 #[.int .u8 5, .slice none 0 0, .slice aw9 (0 + Y) cw9] from hw9 ▸ Row.setc hrow4 2 _)
  have hown4 := BOwn.grown HO8.out hS4
  have hnb := row_in hrow4 hown4 (by decide)
  have Ow9 := Lib.hid (show BOwn w9 w3.heap.size aw9 (0 + Y) cw9 (l.drop 5) from by
    have h := Own.ch hown4 (Ch.ofSome (S := fun x => x = bo) hg9 rfl) (fun h0 g e h => by subst h; exact hnb ⟨h0, e⟩)
    rw [List.nil_append] at h
    exact h)
  have Cw9 := Lib.hid (show w3.grownBy w9 (some bo) from grownBy_trans (grownBy_some (grownBy_trans G8.out hS4) _) hg9)
  clear hS4 hK4 hrow4 hc4 hf4 hw9 hg9 hown4 hnb HO8 G8
  refine ⟨by first | rfl | trivial, ?_⟩
  have HT9 := Lib.hid (HT3.out.grownNe Cw9.out (by have := HBO.out; omega))
  have HN9 := Lib.hid (HN3.out.grownNe Cw9.out (by have := HBO.out; omega))
  have HG9 := Lib.hid (grownBy_old HG3.out Cw9.out (by have := HBO.out; omega))
  rw [show 0 + Y = Y from Nat.zero_add Y] at Rw9 Ow9
  go_wp2_with (first | (refine wpList_load_row rfl 26 _ rfl bo rfl 26 #[.int .u8 5, .slice none 0 0, .slice aw9 Y cw9] (0, 0) _ Rw9.out Try.underlying26 rfl (by kernel_rfl) ?_) | (refine wpList_putrow rfl rfl w.heap.size rfl #[.int .u8 5, .slice none 0 0, .slice aw9 Y cw9] rfl HT9.out (by kernel_rfl) rfl (by simp [Value.oneCell']) ?_; intro W5 hg5 hr5; have HG5 := Lib.hid hg5; have HR5 := Lib.hid hr5; clear hg5 hr5))
  refine bodyPost_ret (results_ctt rfl _ _ w.heap.size 26 #[.int .u8 5, .slice none 0 0, .slice aw9 Y cw9] (0, 0) _ _ _ rfl rfl rfl HR5.out Try.underlying26 rfl (by kernel_rfl)) rfl ?_
  have ho5 := Own.ch Ow9.out (Ch.ofSome (S := fun k => k = w.heap.size) HG5.out rfl) (fun h0 g e h => by
    have h1 := (Own.inn Ow9.out (g := g) ⟨h0, e⟩).1
    have h2 := HBO.out
    omega)
  exact ⟨none, 0, 0, _, _, _, rfl, Own.nil _ _ _ _ _, Own.mono ho5 HG3.out.size, grownBy_old HG9.out HG5.out (Nat.le_refl _)⟩
set_option maxRecDepth 100000 in
set_option maxHeartbeats 4000000 in
theorem refRep_1a (a : Option Addr) (n c : Nat) (l : List UInt8) (w : World) (hl : BLies w a l) (hn : l.length = n) (hnm : n ≤ 140737488355328) (hc : n ≤ c) (b off : Nat) (ha : a = some ⟨b, off, none⟩) (hK : (1 : Int) = ((l.getD 0 0).toNat : Int)) (h1 : 1 ≤ n) (hs : n < 2) :
    Calls Try.prog 39 #[.slice a n c] w fun e w' => RepP w (decR l) e w' := by
  have hne : ¬ (l = [] ∨ (l.getD 0 0).toNat < 1 ∨ 7 < (l.getD 0 0).toNat) := fun h => by
    rcases h with h | h
    · rw [h] at hn; simp at hn; omega
    · omega
  have hce : ∀ W, w.grownBy W none → ∀ k, k < n → W.cell? ⟨b, off + k, none⟩ = some (.int .u8 ((l.getD k 0).toNat : Int)) := fun W hW k hk => by
    obtain ⟨b', off', e, h⟩ := bytes_cells (hl.grown hW) (by omega)
    rw [ha] at e
    injection e with e
    injection e with e1 e2
    subst e1; subst e2
    exact h k (by omega)
  have HC := Lib.hid hce
  have h00 : ((n : Int) == 0) = false := by rw [beq_eq_false_iff_ne]; omega
  have hK0 : ∀ W, w.grownBy W none → W.cell? ⟨b, off, none⟩ = some (.int .u8 1) := fun W hW => by rw [hK]; exact hce W hW 0 (by omega)
  have HK0 := Lib.hid hK0
  subst ha
  clear hce hK0
  have hd : decR l = .error n := by unfold decR; rw [if_neg hne, if_pos (by omega), if_pos (by omega), hn]
  rw [hd]
  have i1 : decide ((n : Int) < (2 : Int)) = true := decide_eq_true (by omega)
  have i1' : decide (n < 2) = true := decide_eq_true (by omega)
  clear hl hn hd hK hne hc hs
  obtain ⟨ir, zr, hir, hirz, hirs, hz⟩ := info_rep
  subst hz
  go_enter Try.func39, Try.ntmps39
  go_upto_region 1 with (refine wpList_made rfl rfl hir hirz ?_; intro w1 hs1 hg1 hr1; have HG1 := Lib.hid hg1; have HT1 := Lib.hid (show Row w1 w.heap.size 26 #[.int .u8 0, .slice none 0 0, .slice none 0 0] from hr1); clear hs1 hg1 hr1)
  go_upto_region 2 with (refine wpList_made rfl rfl hir hirz ?_; intro w2 hs1 hg1 hr1; have HG2 := Lib.hid (grownBy_trans HG1.out hg1); have HT2 := Lib.hid (HT1.out.grown hg1); have HN2 := Lib.hid (show Row w2 w1.heap.size 26 #[.int .u8 0, .slice none 0 0, .slice none 0 0] from hr1); clear hs1 hg1 hr1)
  obtain ⟨bn, hbn⟩ : ∃ bn, bn = w1.heap.size := ⟨_, rfl⟩
  have HBN := Lib.hid (show w.heap.size < bn ∧ bn < w2.heap.size from ⟨by rw [hbn]; exact HT1.out.lt, by rw [hbn]; exact HN2.out.lt⟩)
  rw [← hbn] at HN2 ⊢
  clear hbn HG1 HT1
  have k0 := HK0.out w2 HG2.out
  go_upto_region 4 with fail
  go_upto_region 5 with (refine wpList_fresh rfl rfl rfl rfl rfl hir hirz hirs #[.int .u8 1, .slice none 0 0, .slice none 0 0] rfl rfl rfl (by simp [Value.oneCell']) ?_; intro w3 hs2 hg2 hr2; have HG3 := Lib.hid (grownBy_trans HG2.out hg2); have HR3 := Lib.hid (show Row w3 w2.heap.size 26 #[.int .u8 1, .slice none 0 0, .slice none 0 0] from hr2); have HT3 := Lib.hid (HT2.out.grown hg2); have HN3 := Lib.hid (HN2.out.grown hg2); clear hs2 hg2 hr2)
  obtain ⟨bo, hbo⟩ : ∃ bo, bo = w2.heap.size := ⟨_, rfl⟩
  have HBO := Lib.hid (show w.heap.size < bn ∧ bn < bo ∧ bo < w3.heap.size from ⟨HBN.out.1, by rw [hbo]; exact HBN.out.2, by rw [hbo]; exact HR3.out.lt⟩)
  rw [← hbo] at HR3 ⊢
  clear hbo k0 HT2 HN2 HG2 HBN
  have d0 := Row.cell HR3.out 0
  simp at d0
  go_wp2_with (first | (refine wpList_load_row rfl 26 _ rfl bn rfl 26 #[.int .u8 0, .slice none 0 0, .slice none 0 0] (0, 0) _ HN3.out Try.underlying26 rfl (by kernel_rfl) ?_) | (refine wpList_putrow rfl rfl w.heap.size rfl #[.int .u8 0, .slice none 0 0, .slice none 0 0] rfl HT3.out (by kernel_rfl) rfl (by simp [Value.oneCell']) ?_; intro W5 hg5 hr5; have HG5 := Lib.hid hg5; have HR5 := Lib.hid hr5; clear hg5 hr5))
  refine bodyPost_ret (results_ctt rfl _ _ w.heap.size 26 #[.int .u8 0, .slice none 0 0, .slice none 0 0] (0, 0) _ _ _ rfl rfl rfl HR5.out Try.underlying26 rfl (by kernel_rfl)) rfl ?_
  exact repP_err (n) _ (rfl) (grownBy_old HG3.out HG5.out (Nat.le_refl _))
end Go.Proofs.Ytkdmebcfedehiaa
/- The document's Reply: numbers. Printed by gens/wireref_d.py. -/
namespace Go.Proofs.Ytkdmebcfedehiaa
open Go.RowKit
def oLWireRefD10 : Oper := { dst := none, op := Op.store 23 (Operand.tmp 112) (Operand.tmp 111), type := 0, pos := "ref.go:234", after := #[{ on := 11, ground := Ground.data }, { on := 10, ground := Ground.data }, { on := 10, ground := Ground.chain }, { on := 0, ground := Ground.phase }, { on := 1, ground := Ground.phase }, { on := 2, ground := Ground.phase }, { on := 3, ground := Ground.phase }, { on := 4, ground := Ground.phase }, { on := 5, ground := Ground.phase }, { on := 6, ground := Ground.phase }, { on := 7, ground := Ground.phase }, { on := 8, ground := Ground.phase }, { on := 9, ground := Ground.phase }, { on := 10, ground := Ground.phase }], guard := none }

set_option maxRecDepth 100000 in
set_option maxHeartbeats 4000000 in
theorem refRep_1 (a : Option Addr) (n c : Nat) (l : List UInt8) (w : World) (hl : BLies w a l) (hn : l.length = n) (hnm : n ≤ 140737488355328) (hc : n ≤ c) (b off : Nat) (ha : a = some ⟨b, off, none⟩) (hK : (1 : Int) = ((l.getD 0 0).toNat : Int)) (h1 : 1 ≤ n) (hs : 2 ≤ n) :
    Calls Try.prog 39 #[.slice a n c] w fun e w' => RepP w (decR l) e w' := by
  have HD := Lib.hid (decR_1 hK.symm (by omega))
  have hce : ∀ W, w.grownBy W none → ∀ k, k < n → W.cell? ⟨b, off + k, none⟩ = some (.int .u8 ((l.getD k 0).toNat : Int)) := fun W hW k hk => by
    obtain ⟨b', off', e, h⟩ := bytes_cells (hl.grown hW) (by omega)
    rw [ha] at e
    injection e with e
    injection e with e1 e2
    subst e1; subst e2
    exact h k (by omega)
  have HC := Lib.hid hce
  have h00 : ((n : Int) == 0) = false := by rw [beq_eq_false_iff_ne]; omega
  have hK0 : ∀ W, w.grownBy W none → W.cell? ⟨b, off, none⟩ = some (.int .u8 1) := fun W hW => by rw [hK]; exact hce W hW 0 (by omega)
  have HK0 := Lib.hid hK0
  subst ha
  clear hce hK0
  obtain ⟨M, hM⟩ : ∃ M, M = (l.getD 1 0).toNat := ⟨_, rfl⟩
  obtain ⟨T, hT⟩ : ∃ T, T = (l.drop 2).take (l.getD 1 0).toNat := ⟨_, rfl⟩
  rw [← hT] at HD
  rw [← hM] at hT
  have hMb : M ≤ 255 := by have := (l.getD 1 0).toNat_lt; omega
  obtain ⟨q, hq⟩ : ∃ q, q = min n (2 + M) - 2 := ⟨_, rfl⟩
  have HTL := Lib.hid (show T.length = q by rw [hT, List.length_take, List.length_drop]; omega)
  have HQM := Lib.hid (show q ≤ M by omega)
  have hqb : q ≤ 255 := by omega
  have hqn : q + 2 ≤ n := by omega
  have HQ := Lib.hid hqn
  have HQMIN := Lib.hid hq
  have HMM := Lib.hid hM
  have HTT := Lib.hid hT
  have HNN := Lib.hid hn
  have HM1 := Lib.hid (show ∀ W, w.grownBy W none → W.cell? ⟨b, off + 1, none⟩ = some (.int .u8 (M : Int)) from fun W hW => by rw [hM]; exact HC.out W hW 1 (by omega))
  have hwM : IntKind.i64.wrap (M : Int) = (M : Int) := IntWalk.i64_in _ (by omega)
  have hwM2 : IntKind.u64.wrap (M : Int) = (M : Int) := IntWalk.u64_in _ (by omega)
  have hw5 : IntKind.u64.wrap (2 + (M : Int)) = 2 + (M : Int) := IntWalk.u64_in _ (by omega)
  have hwi : IntKind.i64.wrap (2 + (M : Int)) = 2 + (M : Int) := IntWalk.i64_in _ (by omega)
  have hwn : IntKind.u64.wrap (n : Int) = (n : Int) := IntWalk.u64_in _ (by omega)
  have i1 : decide ((n : Int) < (2 : Int)) = false := decide_eq_false (by omega)
  have i1' : decide (n < 2) = false := decide_eq_false (by omega)
  clear hl hn hK hc hM hT hq
  obtain ⟨ir, zr, hir, hirz, hirs, hz⟩ := info_rep
  subst hz
  go_enter Try.func39, Try.ntmps39
  go_upto_region 1 with (refine wpList_made rfl rfl hir hirz ?_; intro w1 hs1 hg1 hr1; have HG1 := Lib.hid hg1; have HT1 := Lib.hid (show Row w1 w.heap.size 26 #[.int .u8 0, .slice none 0 0, .slice none 0 0] from hr1); clear hs1 hg1 hr1)
  go_upto_region 2 with (refine wpList_made rfl rfl hir hirz ?_; intro w2 hs1 hg1 hr1; have HG2 := Lib.hid (grownBy_trans HG1.out hg1); have HT2 := Lib.hid (HT1.out.grown hg1); have HN2 := Lib.hid (show Row w2 w1.heap.size 26 #[.int .u8 0, .slice none 0 0, .slice none 0 0] from hr1); clear hs1 hg1 hr1)
  obtain ⟨bn, hbn⟩ : ∃ bn, bn = w1.heap.size := ⟨_, rfl⟩
  have HBN := Lib.hid (show w.heap.size < bn ∧ bn < w2.heap.size from ⟨by rw [hbn]; exact HT1.out.lt, by rw [hbn]; exact HN2.out.lt⟩)
  rw [← hbn] at HN2 ⊢
  clear hbn HG1 HT1
  have k0 := HK0.out w2 HG2.out
  go_upto_region 4 with fail
  go_upto_region 5 with (refine wpList_fresh rfl rfl rfl rfl rfl hir hirz hirs #[.int .u8 1, .slice none 0 0, .slice none 0 0] rfl rfl rfl (by simp [Value.oneCell']) ?_; intro w3 hs2 hg2 hr2; have HG3 := Lib.hid (grownBy_trans HG2.out hg2); have HR3 := Lib.hid (show Row w3 w2.heap.size 26 #[.int .u8 1, .slice none 0 0, .slice none 0 0] from hr2); have HT3 := Lib.hid (HT2.out.grown hg2); have HN3 := Lib.hid (HN2.out.grown hg2); clear hs2 hg2 hr2)
  obtain ⟨bo, hbo⟩ : ∃ bo, bo = w2.heap.size := ⟨_, rfl⟩
  have HBO := Lib.hid (show w.heap.size < bn ∧ bn < bo ∧ bo < w3.heap.size from ⟨HBN.out.1, by rw [hbo]; exact HBN.out.2, by rw [hbo]; exact HR3.out.lt⟩)
  rw [← hbo] at HR3 ⊢
  clear hbo k0 HT2 HN2 HG2 HBN
  have d0 := Row.cell HR3.out 0
  simp at d0
  have hm1 := HM1.out w3 HG3.out
  obtain ⟨B, hB⟩ : ∃ B, B = w3.heap.size := ⟨_, rfl⟩
  have HBB := Lib.hid (show w.heap.size < bn ∧ bn < bo ∧ bo < B from by rw [hB]; exact HBO.out)
  have HBZ := Lib.hid (show B ≤ w3.heap.size by omega)
  clear hB
  go_wp2_with fail
  clear d0 hm1
  go_loopw [9] (fun vi wr => ∃ (j : Nat) (an : Option Addr) (cn : Nat), j ≤ q ∧ vi = .int .i64 (j : Int) ∧ Row wr bo 26 #[.int .u8 1, .slice an j cn, .slice none 0 0] ∧ IOwn wr B an j cn ((T.take j).map byN) ∧ Row wr w.heap.size 26 #[.int .u8 0, .slice none 0 0, .slice none 0 0] ∧ Row wr bn 26 #[.int .u8 0, .slice none 0 0, .slice none 0 0] ∧ w.grownBy wr none ∧ B ≤ wr.heap.size ∧ ∀ i, i < j → okN T i = true) (fun vi _ => q - (intOf vi).toNat)
  case atStart => exact ⟨0, none, 0, by omega, rfl, HR3.out, Own.nil _ _ _ _ _, HT3.out, HN3.out, HG3.out, HBZ.out, fun i h => absurd h (by omega)⟩
  case round =>
    obtain ⟨j, an, cn, hj, rfl, hr, ho, ht, hn2, hg, hz, hok⟩ := hrel
    have HR := Lib.hid hr
    have HO := Lib.hid ho
    have HT := Lib.hid ht
    have HN := Lib.hid hn2
    have HG := Lib.hid hg
    have HZ := Lib.hid hz
    have HOK := Lib.hid hok
    clear hr ho ht hn2 hg hz hok
    have hm1 := HM1.out wr HG.out
    by_cases hlt : j < q
    · have hjM : decide ((j : Int) < (M : Int)) = true := decide_eq_true (by have := HQM.out; omega)
      have hjM2 : decide (j < M) = true := decide_eq_true (by have := HQM.out; omega)
      have hjn : decide (2 + (j : Int) < (n : Int)) = true := decide_eq_true (by have := HQ.out; omega)
      have hjn2 : decide (2 + j < n) = true := decide_eq_true (by have := HQ.out; omega)
      have hjl : j < T.length := by have := HTL.out; omega
      have hcj := HC.out wr HG.out (2 + j) (by have := HQ.out; omega)
      obtain ⟨x, hx⟩ : ∃ x, x = T.getD j 0 := ⟨_, rfl⟩
      have hxl : l.getD (2 + j) 0 = x := by rw [hx, HTT.out, getD_tk (by rw [← HTT.out]; exact hjl)]
      rw [hxl] at hcj
      have hxb := x.toNat_lt
      obtain ⟨X, hX⟩ : ∃ X : Int, X = (x.toNat : Int) := ⟨_, rfl⟩
      rw [← hX] at hcj
      have HXL := Lib.hid (show ((l.getD (2 + j) 0).toNat : Int) = X by rw [hxl, hX])
      have hwX : IntKind.i64.wrap X = X := IntWalk.i64_in _ (by omega)
      have hoj : okN T j = (decide (X ≠ 255) && (decide (j = 0) || decide ((T.getD (j - 1) 0).toNat < x.toNat))) := by
        unfold okN
        rw [← hx]
        have h255 : x = 255 ↔ X = 255 := by rw [← UInt8.toNat_inj, hX]; exact ⟨fun h => by rw [h]; rfl, fun h => by have e : (255 : UInt8).toNat = 255 := rfl; omega⟩
        congr 1
        exact decide_eq_decide.2 (not_congr h255)
      have HOJ := Lib.hid hoj
      have HXX := Lib.hid hX
      have HXT := Lib.hid hx
      clear hoj hx hX hxb hxl
      by_cases hx5 : X = 255
      · subst hx5
        have hbad : firstBad T = j := firstBad_at hjl HOK.out (by rw [HOJ.out]; rfl)
        have hxe : ((255 : Int) == 255) = true := rfl
        go_upto_region 18 with fail
        go_quiet (fail)
        obtain ⟨v3, h3⟩ : ∃ v3, v3 = wr.drewN nq := ⟨_, rfl⟩
        rw [← h3]
        have g3 : wr.grownBy v3 none := h3 ▸ grownBy_drewN _ _ _
        have HR6 := Lib.hid (HR.out.grown g3)
        have HO6 := Lib.hid (show IOwn v3 B an j cn ((T.take j).map byN) from Own.grownNone HO.out g3)
        have HT6 := Lib.hid (HT.out.grown g3)
        have HN6 := Lib.hid (HN.out.grown g3)
        have HG6 := Lib.hid (grownBy_trans HG.out g3)
        have HZ6 := Lib.hid (Nat.le_trans HZ.out g3.size)
        clear h3 g3
        go_wp2_with (first | (refine wpList_load_row rfl 26 _ rfl bn rfl 26 #[.int .u8 0, .slice none 0 0, .slice none 0 0] (0, 0) _ HN6.out Try.underlying26 rfl (by kernel_rfl) ?_) | (refine wpList_putrow rfl rfl w.heap.size rfl #[.int .u8 0, .slice none 0 0, .slice none 0 0] rfl HT6.out (by kernel_rfl) rfl (by simp [Value.oneCell']) ?_; intro W5 hg5 hr5; have HG5 := Lib.hid hg5; have HR5 := Lib.hid hr5; clear hg5 hr5))
        refine bodyPost_ret (results_ctt rfl _ _ w.heap.size 26 #[.int .u8 0, .slice none 0 0, .slice none 0 0] (0, 0) _ _ _ rfl rfl rfl HR5.out Try.underlying26 rfl (by kernel_rfl)) rfl ?_
        rw [HD.out, if_pos (by rw [hbad]; exact hjl), hbad]
        exact repP_err (2 + j) _ (by omega) (grownBy_old HG6.out HG5.out (Nat.le_refl _))
      · have hxe : (X == 255) = false := by rw [beq_eq_false_iff_ne]; exact hx5
        by_cases hj0 : j = 0
        · subst hj0
          have hok0 : okN T 0 = true := by rw [HOJ.out, decide_eq_true hx5]; rfl
          have HK0' := Lib.hid hok0
          clear hok0 hx5
          simp only [Nat.add_zero] at hcj
          go_upto_region 18 with fail
          go_quiet (fail)
          obtain ⟨v3, h3⟩ : ∃ v3, v3 = wr.drewN nq := ⟨_, rfl⟩
          rw [← h3]
          have g3 : wr.grownBy v3 none := h3 ▸ grownBy_drewN _ _ _
          have HR6 := Lib.hid (HR.out.grown g3)
          have HO6 := Lib.hid (show IOwn v3 B an 0 cn ((T.take 0).map byN) from Own.grownNone HO.out g3)
          have HT6 := Lib.hid (HT.out.grown g3)
          have HN6 := Lib.hid (HN.out.grown g3)
          have HG6 := Lib.hid (grownBy_trans HG.out g3)
          have HZ6 := Lib.hid (Nat.le_trans HZ.out g3.size)
          clear h3 g3
          have HI := Lib.hid (show IntKind.i64.wrap (2 + (0 : Int)) = 2 + (0 : Int) ∧ ((0 : Int) ≤ 2 + (0 : Int) ∧ 2 + (0 : Int) < (n : Int)) ∧ (2 + (0 : Int)).toNat = 2 + 0 from ⟨IntWalk.i64_in _ (by omega), by have := HQ.out; omega, by omega⟩)
          have HCU := Lib.hid (show ∀ u, Ch (In an cn) v3 u → u.cell? ⟨b, off + (2 + 0), none⟩ = some (.int .u8 X) from fun u hu => by
            have h := HC.out u (Ch.fresh HG6.out hu (fun g hg hi => by have h1 := (Own.inn HO6.out hi).1; have h2 := HBB.out; omega)) (2 + 0) (by have := HQ.out; omega)
            rw [HXL.out] at h
            exact h)
          go_upto_region 20 with fail
          refine wp_normal ?_
          refine wp_regionX (AppS v3 B 3 an 0 cn (((T.take 0).map byN).map (fun z => Value.int .i64 z))) 12 (by kernel_rfl) ⟨Ch.ofNone (grownBy_drewN v3 1 none) _, Own.grownNone HO6.out (grownBy_drewN v3 1 none)⟩ ?_
          refine wpX_take 0 (v := .pointer (some ⟨bo, 1, none⟩)) (oi := { dst := some 101, op := Op.fieldAddr 26 (Operand.tmp 6) 1, type := 0, pos := "ref.go:234", after := #[], guard := none }) (oL := oLWireRefD10) (clo_app _ _ _ _ _ _ _) rfl rfl rfl (by kernel_rfl) (by kernel_rfl) (by kernel_rfl) (by kernel_rfl) (by kernel_rfl) (fun _ _ _ h => by cases h.1) (YG.val (by rfl) (fun _ _ => by go_simp)) ?_
          simp only [Act.put, List.setIfInBounds_toArray, List.set_cons_zero, List.set_cons_succ]
          refine wpX_take 1 (v := .slice an 0 cn) (oi := { dst := some 102, op := Op.load 23 (Operand.tmp 101), type := 23, pos := "ref.go:234", after := #[{ on := 0, ground := Ground.data }], guard := none }) (oL := oLWireRefD10) (clo_app _ _ _ _ _ _ _) rfl rfl rfl (by kernel_rfl) (by kernel_rfl) (by kernel_rfl) (by kernel_rfl) (by kernel_rfl) (fun _ _ _ h => by cases h.1) (YG.val (by rfl) (fun u hu => by have c := Row.cell (HR6.out.ch hu.1 (row_in HR6.out HO6.out (by decide))) 1; simp at c; go_simp)) ?_
          simp only [Act.put, List.setIfInBounds_toArray, List.set_cons_zero, List.set_cons_succ]
          refine wpX_take 2 (v := .slice (some ⟨b, off, none⟩) n c) (oi := { dst := some 103, op := Op.move (Operand.tmp 0), type := 24, pos := "ref.go:234", after := #[], guard := none }) (oL := oLWireRefD10) (clo_app _ _ _ _ _ _ _) rfl rfl rfl (by kernel_rfl) (by kernel_rfl) (by kernel_rfl) (by kernel_rfl) (by kernel_rfl) (fun _ _ _ h => by cases h.1) (YG.val (by rfl) (fun _ _ => by go_simp)) ?_
          simp only [Act.put, List.setIfInBounds_toArray, List.set_cons_zero, List.set_cons_succ]
          refine wpX_take 3 (v := .int .i64 2) (oi := { dst := some 104, op := Op.move (Operand.tmp 7), type := 3, pos := "ref.go:234", after := #[], guard := none }) (oL := oLWireRefD10) (clo_app _ _ _ _ _ _ _) rfl rfl rfl (by kernel_rfl) (by kernel_rfl) (by kernel_rfl) (by kernel_rfl) (by kernel_rfl) (fun _ _ _ h => by cases h.1) (YG.val (by rfl) (fun _ _ => by go_simp)) ?_
          simp only [Act.put, List.setIfInBounds_toArray, List.set_cons_zero, List.set_cons_succ]
          refine wpX_take 4 (v := .int .i64 0) (oi := { dst := some 105, op := Op.move (Operand.tmp 9), type := 3, pos := "ref.go:234", after := #[], guard := none }) (oL := oLWireRefD10) (clo_app _ _ _ _ _ _ _) rfl rfl rfl (by kernel_rfl) (by kernel_rfl) (by kernel_rfl) (by kernel_rfl) (by kernel_rfl) (fun _ _ _ h => by cases h.1) (YG.val (by rfl) (fun _ _ => by go_simp)) ?_
          simp only [Act.put, List.setIfInBounds_toArray, List.set_cons_zero, List.set_cons_succ]
          refine wpX_take 5 (v := .int .i64 2) (oi := { dst := some 106, op := Op.binOp BinOp.add 3 (Operand.tmp 104) (Operand.tmp 105) 3, type := 3, pos := "ref.go:234", after := #[{ on := 3, ground := Ground.data }, { on := 4, ground := Ground.data }], guard := none }) (oL := oLWireRefD10) (clo_app _ _ _ _ _ _ _) rfl rfl rfl (by kernel_rfl) (by kernel_rfl) (by kernel_rfl) (by kernel_rfl) (by kernel_rfl) (fun _ _ _ h => by cases h.1) (YG.val (by rfl) (fun _ _ => by go_simp; first | done | rfl | exact HI.out.1)) ?_
          simp only [Act.put, List.setIfInBounds_toArray, List.set_cons_zero, List.set_cons_succ]
          refine wpX_take 6 (v := .pointer (some ⟨b, off + 2, none⟩)) (oi := { dst := some 107, op := Op.indexAddr 24 (Operand.tmp 103) (Operand.tmp 106), type := 0, pos := "ref.go:234", after := #[{ on := 2, ground := Ground.data }, { on := 5, ground := Ground.data }], guard := none }) (oL := oLWireRefD10) (clo_app _ _ _ _ _ _ _) rfl rfl rfl (by kernel_rfl) (by kernel_rfl) (by kernel_rfl) (by kernel_rfl) (by kernel_rfl) (fun _ _ _ h => by cases h.1) (YG.val (by rfl) (fun _ _ => by go_simp; first | done | rw [if_pos HI.out.2.1, HI.out.2.2])) ?_
          simp only [Act.put, List.setIfInBounds_toArray, List.set_cons_zero, List.set_cons_succ]
          refine wpX_take 7 (v := .int .u8 X) (oi := { dst := some 108, op := Op.load 5 (Operand.tmp 107), type := 5, pos := "ref.go:234", after := #[{ on := 6, ground := Ground.data }], guard := none }) (oL := oLWireRefD10) (clo_app _ _ _ _ _ _ _) rfl rfl rfl (by kernel_rfl) (by kernel_rfl) (by kernel_rfl) (by kernel_rfl) (by kernel_rfl) (fun _ _ _ h => by cases h.1) (YG.val (by rfl) (fun u hu => by have c := HCU.out u hu.1; go_simp)) ?_
          simp only [Act.put, List.setIfInBounds_toArray, List.set_cons_zero, List.set_cons_succ]
          refine wpX_take 8 (v := .int .i64 X) (oi := { dst := some 109, op := Op.convert 5 3 (Operand.tmp 108), type := 3, pos := "ref.go:234", after := #[{ on := 7, ground := Ground.data }], guard := none }) (oL := oLWireRefD10) (clo_app _ _ _ _ _ _ _) rfl rfl rfl (by kernel_rfl) (by kernel_rfl) (by kernel_rfl) (by kernel_rfl) (by kernel_rfl) (fun _ _ _ h => by cases h.1) (YG.val (by rfl) (fun _ _ => by go_simp)) ?_
          simp only [Act.put, List.setIfInBounds_toArray, List.set_cons_zero, List.set_cons_succ]
          refine wpX_step 9 (o := { dst := some 110, op := Op.buildSlice 23 1 #[(0, Operand.tmp 109)], type := 23, pos := "ref.go:234", after := #[{ on := 8, ground := Ground.data }], guard := none }) rfl rfl (by kernel_rfl) (by rfl) (fun u2 hS2 K hK => ?_)
          have HKK := Lib.hid hK
          have HS2 := Lib.hid hS2
          clear hK hS2
          have ha2 := World.grownBy_alloc u2 (.cells #[.int .i64 X] 3) none
          refine wp_val_op (v := .slice (some ⟨u2.heap.size, 0, none⟩) 1 1) (w1 := u2.alloc (.cells #[.int .i64 X] 3)) (by go_simp) ?_
          have hrw2 : Row (u2.alloc (.cells #[.int .i64 X] 3)) u2.heap.size 3 #[.int .i64 X] := heap_alloc_new u2 _
          refine HKK.out (fun u => AppS v3 B 3 an 0 cn (((T.take 0).map byN).map (fun z => Value.int .i64 z)) u ∧ Row u u2.heap.size 3 #[.int .i64 X]) _ _ ⟨clo_app _ _ _ _ _ _ _ _ _ HS2.out ha2, hrw2⟩ (fun u h => h.1) (clo_and (clo_app _ _ _ _ _ _ _) (clo_row _ _ _)) ?_
          simp only [Act.put, List.setIfInBounds_toArray, List.set_cons_zero, List.set_cons_succ]
          clear ha2 hrw2
          have hu26 : v3.heap.size ≤ u2.heap.size := HS2.out.1.size
          refine wpX_step 10 (o := { dst := some 111, op := Op.call { callee := Callee.builtin Builtin.append, args := #[Operand.tmp 102, Operand.tmp 110], argTypes := #[23, 23] }, type := 23, pos := "ref.go:234", after := #[{ on := 1, ground := Ground.data }, { on := 9, ground := Ground.data }], guard := none }) rfl rfl (by kernel_rfl) (by rfl) (fun u3 hS3 K3 hK3 => ?_)
          have HK3 := Lib.hid hK3
          have HS3 := Lib.hid hS3
          clear hK3 hS3
          have hnews : ∀ j u, ([.int .i64 X] : List Value)[j]? = some u → u3.cell? ((⟨u2.heap.size, 0, none⟩ : Addr).add j) = some u := by
            intro j u hu
            have h2 : ((⟨u2.heap.size, 0, none⟩ : Addr).add j) = ⟨u2.heap.size, j, none⟩ := by unfold Addr.add; split <;> simp_all
            rw [h2, Row.cell HS3.out.2]
            simpa using hu
          have hzb : B ≤ u3.heap.size := by
            have h1 := HZ6.out
            have h2 := HS3.out.1.1.size
            omega
          have hFn : ¬ In an cn u2.heap.size := fun h => by
            have := (Own.inn HO6.out h).2
            omega
          obtain ⟨gv9, cv9, w8, hrun, hown8, hgr8⟩ := run_app (P := Try.prog) (ty := 23) u3 elI HS3.out.1.2 ⟨u2.heap.size, 0, none⟩ 1 1 [.int .i64 X] rfl hnews (by simp [Value.oneCell']) (by unfold maxLen; omega) (by omega) hzb (fun _ _ _ => trivial) (by omega)
          refine wp_val_op (v := .slice (some ⟨gv9, 0, none⟩) (0 + 1) cv9) (w1 := w8) (run_app_op u3 w8 _ (.tmp 102) (.tmp 110) rfl _ hrun) ?_
          refine HK3.out (fun u => (AppS v3 B 3 an 0 cn (((T.take 0).map byN).map (fun z => Value.int .i64 z)) u ∧ Row u u2.heap.size 3 #[.int .i64 X]) ∧ w8.grownBy u none) _ _ ⟨⟨⟨HS3.out.1.1.trans hgr8.ch (fun _ _ h => h), own_behind HS3.out.1.2 hown8 hgr8⟩, Row.ch HS3.out.2 hgr8.ch hFn⟩, World.grownBy.refl _ _⟩ (fun u h => h.1) (clo_and (clo_and (clo_app _ _ _ _ _ _ _) (clo_row _ _ _)) (clo_grown _)) ?_
          simp only [Act.put, List.setIfInBounds_toArray, List.set_cons_zero, List.set_cons_succ]
          refine wpX_take 11 (v := .pointer (some ⟨bo, 1, none⟩)) (oi := { dst := some 112, op := Op.fieldAddr 26 (Operand.tmp 6) 1, type := 0, pos := "ref.go:234", after := #[{ on := 0, ground := Ground.phase }, { on := 1, ground := Ground.phase }, { on := 2, ground := Ground.phase }, { on := 3, ground := Ground.phase }, { on := 4, ground := Ground.phase }, { on := 5, ground := Ground.phase }, { on := 6, ground := Ground.phase }, { on := 7, ground := Ground.phase }, { on := 8, ground := Ground.phase }, { on := 9, ground := Ground.phase }, { on := 10, ground := Ground.phase }], guard := none }) (oL := oLWireRefD10) (clo_and (clo_and (clo_app _ _ _ _ _ _ _) (clo_row _ _ _)) (clo_grown _)) rfl rfl rfl (by kernel_rfl) (by kernel_rfl) (by kernel_rfl) (by kernel_rfl) (by kernel_rfl) (fun _ _ _ h => by cases h.1) (YG.val (by rfl) (fun _ _ => by go_simp)) ?_
          simp only [Act.put, List.setIfInBounds_toArray, List.set_cons_zero, List.set_cons_succ]
          refine wpX_last (oL := { dst := none, op := Op.store 23 (Operand.tmp 112) (Operand.tmp 111), type := 0, pos := "ref.go:234", after := #[{ on := 11, ground := Ground.data }, { on := 10, ground := Ground.data }, { on := 10, ground := Ground.chain }, { on := 0, ground := Ground.phase }, { on := 1, ground := Ground.phase }, { on := 2, ground := Ground.phase }, { on := 3, ground := Ground.phase }, { on := 4, ground := Ground.phase }, { on := 5, ground := Ground.phase }, { on := 6, ground := Ground.phase }, { on := 7, ground := Ground.phase }, { on := 8, ground := Ground.phase }, { on := 9, ground := Ground.phase }, { on := 10, ground := Ground.phase }], guard := none }) rfl (by kernel_rfl) (by kernel_rfl) (by rfl) (fun u4 hS4 K4 hK4 => ?_)
          have hrow4 := HR6.out.ch hS4.1.1.1 (row_in HR6.out HO6.out (by decide))
          have hc4 := Row.cell hrow4 1
          have hf4 := Row.frozen hrow4 1
          simp at hc4
          refine wp_skip_op (w1 := u4.setCell ⟨bo, 1, none⟩ (.slice (some ⟨gv9, 0, none⟩) (0 + 1) cv9)) (by go_simp) (hK4 _ _ ?_)
          simp only [Act.put]
          obtain ⟨v9, hw9⟩ : ∃ v9, v9 = u4.setCell ⟨bo, 1, none⟩ (.slice (some ⟨gv9, 0, none⟩) (0 + 1) cv9) := ⟨_, rfl⟩
          rw [← hw9]
          have hg9 : u4.grownBy v9 (some bo) := hw9 ▸ grownBy_setCell _ _ _ _
          have Rv9 := Lib.hid (show Row v9 bo 26 #[.int .u8 1, .slice (some ⟨gv9, 0, none⟩) (0 + 1) cv9, .slice none 0 0] from hw9 ▸ Row.setc hrow4 1 _)
          have hown4 : Own u4 B 3 1 (some ⟨gv9, 0, none⟩) (0 + 1) cv9 (((T.take 0).map byN).map (fun z => Value.int .i64 z) ++ [.int .i64 X]) := Own.grownNone hown8 hS4.2
          have hnb := row_in hrow4 hown4 (by decide)
          have Ov9 := Lib.hid (Own.ch hown4 (Ch.ofSome (S := fun x => x = bo) hg9 rfl) (fun h0 g e h => by subst h; exact hnb ⟨h0, e⟩))
          have Cv9 := Lib.hid (show Ch (fun x => In an cn x ∨ x = bo) v3 v9 from (hS4.1.1.1.mono (fun _ _ h => .inl h)).trans (Ch.ofSome (S := fun x => In an cn x ∨ x = bo) hg9 (.inr rfl)) (fun _ _ h => h))
          have Iv9 := Lib.hid (show ∀ x, In (some ⟨gv9, 0, none⟩) cv9 x → In an cn x ∨ v3.heap.size ≤ x from fun x hx => (hgr8.inn hx).imp id (fun h => Nat.le_trans (show v3.heap.size ≤ u3.heap.size from HS3.out.1.1.size) h))
          clear HKK HS2 HK3 HS3 hnews hzb hFn hrun hown8 hgr8 hS4 hK4 hrow4 hc4 hf4 hw9 hg9 hown4 hnb hu26
          refine ⟨by first | rfl | trivial, ?_⟩
          have HT7 := Lib.hid (HT6.out.ch Cv9.out (fun h => by rcases h with h | h; exact row_in HT6.out HO6.out (by decide) h; have := HBB.out; omega))
          have HN7 := Lib.hid (HN6.out.ch Cv9.out (fun h => by rcases h with h | h; exact row_in HN6.out HO6.out (by decide) h; have := HBB.out; omega))
          have HG7 := Lib.hid (Ch.fresh HG6.out Cv9.out (fun g hg h => by rcases h with h | h; have h1 := (Own.inn HO6.out h).1; have h2 := HBB.out; omega; have := HBB.out; omega))
          have HZ7 := Lib.hid (Nat.le_trans HZ6.out Cv9.out.size)
          go_wp2_with fail
          go_roundw
          case rel =>
            refine ⟨1, _, _, by omega, by first | rfl | go_num, Rv9.out, ?_, HT7.out, HN7.out, HG7.out, HZ7.out, fun i hi => ?_⟩
            · have h := Ov9.out
              have e : (T.take (1)).map byN = (T.take (0)).map byN ++ [X] := by
                rw [show 1 = 0 + 1 from rfl, List.take_succ_eq_append_getElem hjl, List.map_append, List.map_singleton]
                congr 2
                rw [HXX.out, HXT.out, List.getD_eq_getElem?_getD, List.getElem?_eq_getElem hjl]
                rfl
              rw [e]
              unfold IOwn IV
              rw [List.map_append]
              exact h
            · by_cases e : i = 0
              · rw [e]; exact HK0'.out
              · exact HOK.out i (by omega)
          case measure => simp [intOf]; omega
        · have hj1 : decide (0 < j) = true := decide_eq_true (by omega)
          have hj2 : decide ((0 : Int) < (j : Int)) = true := decide_eq_true (by omega)
          obtain ⟨Y, hY⟩ : ∃ Y : Int, Y = ((T.getD (j - 1) 0).toNat : Int) := ⟨_, rfl⟩
          have hcp : wr.cell? ⟨b, off + (1 + j), none⟩ = some (.int .u8 Y) := by
            have h := HC.out wr HG.out (1 + j) (by have := HQ.out; omega)
            have e : T.getD (j - 1) 0 = l.getD (1 + j) 0 := by
              rw [HTT.out, getD_tk (by rw [← HTT.out]; omega)]
              congr 1
              omega
            rw [hY, e]
            exact h
          have hjm : ((1 + j : Nat) : Int) = 2 + (j : Int) - 1 := by omega
          by_cases hxy : Y < X
          · have hd : decide (X ≤ Y) = false := decide_eq_false (by omega)
            have hokj : okN T j = true := by
              rw [HOJ.out, decide_eq_true hx5, decide_eq_true (show (T.getD (j - 1) 0).toNat < x.toNat by have := HXX.out; omega)]
              simp
            have HK0' := Lib.hid hokj
            clear hokj hY hx5
            go_upto_region 18 with fail
            go_quiet (fail)
            obtain ⟨v3, h3⟩ : ∃ v3, v3 = wr.drewN nq := ⟨_, rfl⟩
            rw [← h3]
            have g3 : wr.grownBy v3 none := h3 ▸ grownBy_drewN _ _ _
            have HR6 := Lib.hid (HR.out.grown g3)
            have HO6 := Lib.hid (show IOwn v3 B an j cn ((T.take j).map byN) from Own.grownNone HO.out g3)
            have HT6 := Lib.hid (HT.out.grown g3)
            have HN6 := Lib.hid (HN.out.grown g3)
            have HG6 := Lib.hid (grownBy_trans HG.out g3)
            have HZ6 := Lib.hid (Nat.le_trans HZ.out g3.size)
            clear h3 g3
            have HI := Lib.hid (show IntKind.i64.wrap (2 + (j : Int)) = 2 + (j : Int) ∧ ((0 : Int) ≤ 2 + (j : Int) ∧ 2 + (j : Int) < (n : Int)) ∧ (2 + (j : Int)).toNat = 2 + j from ⟨IntWalk.i64_in _ (by omega), by have := HQ.out; omega, by omega⟩)
            have HCU := Lib.hid (show ∀ u, Ch (In an cn) v3 u → u.cell? ⟨b, off + (2 + j), none⟩ = some (.int .u8 X) from fun u hu => by
              have h := HC.out u (Ch.fresh HG6.out hu (fun g hg hi => by have h1 := (Own.inn HO6.out hi).1; have h2 := HBB.out; omega)) (2 + j) (by have := HQ.out; omega)
              rw [HXL.out] at h
              exact h)
            go_upto_region 20 with fail
            refine wp_normal ?_
            refine wp_regionX (AppS v3 B 3 an j cn (((T.take j).map byN).map (fun z => Value.int .i64 z))) 12 (by kernel_rfl) ⟨Ch.ofNone (grownBy_drewN v3 1 none) _, Own.grownNone HO6.out (grownBy_drewN v3 1 none)⟩ ?_
            refine wpX_take 0 (v := .pointer (some ⟨bo, 1, none⟩)) (oi := { dst := some 101, op := Op.fieldAddr 26 (Operand.tmp 6) 1, type := 0, pos := "ref.go:234", after := #[], guard := none }) (oL := oLWireRefD10) (clo_app _ _ _ _ _ _ _) rfl rfl rfl (by kernel_rfl) (by kernel_rfl) (by kernel_rfl) (by kernel_rfl) (by kernel_rfl) (fun _ _ _ h => by cases h.1) (YG.val (by rfl) (fun _ _ => by go_simp)) ?_
            simp only [Act.put, List.setIfInBounds_toArray, List.set_cons_zero, List.set_cons_succ]
            refine wpX_take 1 (v := .slice an j cn) (oi := { dst := some 102, op := Op.load 23 (Operand.tmp 101), type := 23, pos := "ref.go:234", after := #[{ on := 0, ground := Ground.data }], guard := none }) (oL := oLWireRefD10) (clo_app _ _ _ _ _ _ _) rfl rfl rfl (by kernel_rfl) (by kernel_rfl) (by kernel_rfl) (by kernel_rfl) (by kernel_rfl) (fun _ _ _ h => by cases h.1) (YG.val (by rfl) (fun u hu => by have c := Row.cell (HR6.out.ch hu.1 (row_in HR6.out HO6.out (by decide))) 1; simp at c; go_simp)) ?_
            simp only [Act.put, List.setIfInBounds_toArray, List.set_cons_zero, List.set_cons_succ]
            refine wpX_take 2 (v := .slice (some ⟨b, off, none⟩) n c) (oi := { dst := some 103, op := Op.move (Operand.tmp 0), type := 24, pos := "ref.go:234", after := #[], guard := none }) (oL := oLWireRefD10) (clo_app _ _ _ _ _ _ _) rfl rfl rfl (by kernel_rfl) (by kernel_rfl) (by kernel_rfl) (by kernel_rfl) (by kernel_rfl) (fun _ _ _ h => by cases h.1) (YG.val (by rfl) (fun _ _ => by go_simp)) ?_
            simp only [Act.put, List.setIfInBounds_toArray, List.set_cons_zero, List.set_cons_succ]
            refine wpX_take 3 (v := .int .i64 2) (oi := { dst := some 104, op := Op.move (Operand.tmp 7), type := 3, pos := "ref.go:234", after := #[], guard := none }) (oL := oLWireRefD10) (clo_app _ _ _ _ _ _ _) rfl rfl rfl (by kernel_rfl) (by kernel_rfl) (by kernel_rfl) (by kernel_rfl) (by kernel_rfl) (fun _ _ _ h => by cases h.1) (YG.val (by rfl) (fun _ _ => by go_simp)) ?_
            simp only [Act.put, List.setIfInBounds_toArray, List.set_cons_zero, List.set_cons_succ]
            refine wpX_take 4 (v := .int .i64 (j : Int)) (oi := { dst := some 105, op := Op.move (Operand.tmp 9), type := 3, pos := "ref.go:234", after := #[], guard := none }) (oL := oLWireRefD10) (clo_app _ _ _ _ _ _ _) rfl rfl rfl (by kernel_rfl) (by kernel_rfl) (by kernel_rfl) (by kernel_rfl) (by kernel_rfl) (fun _ _ _ h => by cases h.1) (YG.val (by rfl) (fun _ _ => by go_simp)) ?_
            simp only [Act.put, List.setIfInBounds_toArray, List.set_cons_zero, List.set_cons_succ]
            refine wpX_take 5 (v := .int .i64 (2 + (j : Int))) (oi := { dst := some 106, op := Op.binOp BinOp.add 3 (Operand.tmp 104) (Operand.tmp 105) 3, type := 3, pos := "ref.go:234", after := #[{ on := 3, ground := Ground.data }, { on := 4, ground := Ground.data }], guard := none }) (oL := oLWireRefD10) (clo_app _ _ _ _ _ _ _) rfl rfl rfl (by kernel_rfl) (by kernel_rfl) (by kernel_rfl) (by kernel_rfl) (by kernel_rfl) (fun _ _ _ h => by cases h.1) (YG.val (by rfl) (fun _ _ => by go_simp; first | done | rfl | exact HI.out.1)) ?_
            simp only [Act.put, List.setIfInBounds_toArray, List.set_cons_zero, List.set_cons_succ]
            refine wpX_take 6 (v := .pointer (some ⟨b, off + (2 + j), none⟩)) (oi := { dst := some 107, op := Op.indexAddr 24 (Operand.tmp 103) (Operand.tmp 106), type := 0, pos := "ref.go:234", after := #[{ on := 2, ground := Ground.data }, { on := 5, ground := Ground.data }], guard := none }) (oL := oLWireRefD10) (clo_app _ _ _ _ _ _ _) rfl rfl rfl (by kernel_rfl) (by kernel_rfl) (by kernel_rfl) (by kernel_rfl) (by kernel_rfl) (fun _ _ _ h => by cases h.1) (YG.val (by rfl) (fun _ _ => by go_simp; first | done | rw [if_pos HI.out.2.1, HI.out.2.2])) ?_
            simp only [Act.put, List.setIfInBounds_toArray, List.set_cons_zero, List.set_cons_succ]
            refine wpX_take 7 (v := .int .u8 X) (oi := { dst := some 108, op := Op.load 5 (Operand.tmp 107), type := 5, pos := "ref.go:234", after := #[{ on := 6, ground := Ground.data }], guard := none }) (oL := oLWireRefD10) (clo_app _ _ _ _ _ _ _) rfl rfl rfl (by kernel_rfl) (by kernel_rfl) (by kernel_rfl) (by kernel_rfl) (by kernel_rfl) (fun _ _ _ h => by cases h.1) (YG.val (by rfl) (fun u hu => by have c := HCU.out u hu.1; go_simp)) ?_
            simp only [Act.put, List.setIfInBounds_toArray, List.set_cons_zero, List.set_cons_succ]
            refine wpX_take 8 (v := .int .i64 X) (oi := { dst := some 109, op := Op.convert 5 3 (Operand.tmp 108), type := 3, pos := "ref.go:234", after := #[{ on := 7, ground := Ground.data }], guard := none }) (oL := oLWireRefD10) (clo_app _ _ _ _ _ _ _) rfl rfl rfl (by kernel_rfl) (by kernel_rfl) (by kernel_rfl) (by kernel_rfl) (by kernel_rfl) (fun _ _ _ h => by cases h.1) (YG.val (by rfl) (fun _ _ => by go_simp)) ?_
            simp only [Act.put, List.setIfInBounds_toArray, List.set_cons_zero, List.set_cons_succ]
            refine wpX_step 9 (o := { dst := some 110, op := Op.buildSlice 23 1 #[(0, Operand.tmp 109)], type := 23, pos := "ref.go:234", after := #[{ on := 8, ground := Ground.data }], guard := none }) rfl rfl (by kernel_rfl) (by rfl) (fun u2 hS2 K hK => ?_)
            have HKK := Lib.hid hK
            have HS2 := Lib.hid hS2
            clear hK hS2
            have ha2 := World.grownBy_alloc u2 (.cells #[.int .i64 X] 3) none
            refine wp_val_op (v := .slice (some ⟨u2.heap.size, 0, none⟩) 1 1) (w1 := u2.alloc (.cells #[.int .i64 X] 3)) (by go_simp) ?_
            have hrw2 : Row (u2.alloc (.cells #[.int .i64 X] 3)) u2.heap.size 3 #[.int .i64 X] := heap_alloc_new u2 _
            refine HKK.out (fun u => AppS v3 B 3 an j cn (((T.take j).map byN).map (fun z => Value.int .i64 z)) u ∧ Row u u2.heap.size 3 #[.int .i64 X]) _ _ ⟨clo_app _ _ _ _ _ _ _ _ _ HS2.out ha2, hrw2⟩ (fun u h => h.1) (clo_and (clo_app _ _ _ _ _ _ _) (clo_row _ _ _)) ?_
            simp only [Act.put, List.setIfInBounds_toArray, List.set_cons_zero, List.set_cons_succ]
            clear ha2 hrw2
            have hu26 : v3.heap.size ≤ u2.heap.size := HS2.out.1.size
            refine wpX_step 10 (o := { dst := some 111, op := Op.call { callee := Callee.builtin Builtin.append, args := #[Operand.tmp 102, Operand.tmp 110], argTypes := #[23, 23] }, type := 23, pos := "ref.go:234", after := #[{ on := 1, ground := Ground.data }, { on := 9, ground := Ground.data }], guard := none }) rfl rfl (by kernel_rfl) (by rfl) (fun u3 hS3 K3 hK3 => ?_)
            have HK3 := Lib.hid hK3
            have HS3 := Lib.hid hS3
            clear hK3 hS3
            have hnews : ∀ j u, ([.int .i64 X] : List Value)[j]? = some u → u3.cell? ((⟨u2.heap.size, 0, none⟩ : Addr).add j) = some u := by
              intro j u hu
              have h2 : ((⟨u2.heap.size, 0, none⟩ : Addr).add j) = ⟨u2.heap.size, j, none⟩ := by unfold Addr.add; split <;> simp_all
              rw [h2, Row.cell HS3.out.2]
              simpa using hu
            have hzb : B ≤ u3.heap.size := by
              have h1 := HZ6.out
              have h2 := HS3.out.1.1.size
              omega
            have hFn : ¬ In an cn u2.heap.size := fun h => by
              have := (Own.inn HO6.out h).2
              omega
            obtain ⟨gv9, cv9, w8, hrun, hown8, hgr8⟩ := run_app (P := Try.prog) (ty := 23) u3 elI HS3.out.1.2 ⟨u2.heap.size, 0, none⟩ 1 1 [.int .i64 X] rfl hnews (by simp [Value.oneCell']) (by unfold maxLen; omega) (by omega) hzb (fun _ _ _ => trivial) (by omega)
            refine wp_val_op (v := .slice (some ⟨gv9, 0, none⟩) (j + 1) cv9) (w1 := w8) (run_app_op u3 w8 _ (.tmp 102) (.tmp 110) rfl _ hrun) ?_
            refine HK3.out (fun u => (AppS v3 B 3 an j cn (((T.take j).map byN).map (fun z => Value.int .i64 z)) u ∧ Row u u2.heap.size 3 #[.int .i64 X]) ∧ w8.grownBy u none) _ _ ⟨⟨⟨HS3.out.1.1.trans hgr8.ch (fun _ _ h => h), own_behind HS3.out.1.2 hown8 hgr8⟩, Row.ch HS3.out.2 hgr8.ch hFn⟩, World.grownBy.refl _ _⟩ (fun u h => h.1) (clo_and (clo_and (clo_app _ _ _ _ _ _ _) (clo_row _ _ _)) (clo_grown _)) ?_
            simp only [Act.put, List.setIfInBounds_toArray, List.set_cons_zero, List.set_cons_succ]
            refine wpX_take 11 (v := .pointer (some ⟨bo, 1, none⟩)) (oi := { dst := some 112, op := Op.fieldAddr 26 (Operand.tmp 6) 1, type := 0, pos := "ref.go:234", after := #[{ on := 0, ground := Ground.phase }, { on := 1, ground := Ground.phase }, { on := 2, ground := Ground.phase }, { on := 3, ground := Ground.phase }, { on := 4, ground := Ground.phase }, { on := 5, ground := Ground.phase }, { on := 6, ground := Ground.phase }, { on := 7, ground := Ground.phase }, { on := 8, ground := Ground.phase }, { on := 9, ground := Ground.phase }, { on := 10, ground := Ground.phase }], guard := none }) (oL := oLWireRefD10) (clo_and (clo_and (clo_app _ _ _ _ _ _ _) (clo_row _ _ _)) (clo_grown _)) rfl rfl rfl (by kernel_rfl) (by kernel_rfl) (by kernel_rfl) (by kernel_rfl) (by kernel_rfl) (fun _ _ _ h => by cases h.1) (YG.val (by rfl) (fun _ _ => by go_simp)) ?_
            simp only [Act.put, List.setIfInBounds_toArray, List.set_cons_zero, List.set_cons_succ]
            refine wpX_last (oL := { dst := none, op := Op.store 23 (Operand.tmp 112) (Operand.tmp 111), type := 0, pos := "ref.go:234", after := #[{ on := 11, ground := Ground.data }, { on := 10, ground := Ground.data }, { on := 10, ground := Ground.chain }, { on := 0, ground := Ground.phase }, { on := 1, ground := Ground.phase }, { on := 2, ground := Ground.phase }, { on := 3, ground := Ground.phase }, { on := 4, ground := Ground.phase }, { on := 5, ground := Ground.phase }, { on := 6, ground := Ground.phase }, { on := 7, ground := Ground.phase }, { on := 8, ground := Ground.phase }, { on := 9, ground := Ground.phase }, { on := 10, ground := Ground.phase }], guard := none }) rfl (by kernel_rfl) (by kernel_rfl) (by rfl) (fun u4 hS4 K4 hK4 => ?_)
            have hrow4 := HR6.out.ch hS4.1.1.1 (row_in HR6.out HO6.out (by decide))
            have hc4 := Row.cell hrow4 1
            have hf4 := Row.frozen hrow4 1
            simp at hc4
            refine wp_skip_op (w1 := u4.setCell ⟨bo, 1, none⟩ (.slice (some ⟨gv9, 0, none⟩) (j + 1) cv9)) (by go_simp) (hK4 _ _ ?_)
            simp only [Act.put]
            obtain ⟨v9, hw9⟩ : ∃ v9, v9 = u4.setCell ⟨bo, 1, none⟩ (.slice (some ⟨gv9, 0, none⟩) (j + 1) cv9) := ⟨_, rfl⟩
            rw [← hw9]
            have hg9 : u4.grownBy v9 (some bo) := hw9 ▸ grownBy_setCell _ _ _ _
            have Rv9 := Lib.hid (show Row v9 bo 26 #[.int .u8 1, .slice (some ⟨gv9, 0, none⟩) (j + 1) cv9, .slice none 0 0] from hw9 ▸ Row.setc hrow4 1 _)
            have hown4 : Own u4 B 3 1 (some ⟨gv9, 0, none⟩) (j + 1) cv9 (((T.take j).map byN).map (fun z => Value.int .i64 z) ++ [.int .i64 X]) := Own.grownNone hown8 hS4.2
            have hnb := row_in hrow4 hown4 (by decide)
            have Ov9 := Lib.hid (Own.ch hown4 (Ch.ofSome (S := fun x => x = bo) hg9 rfl) (fun h0 g e h => by subst h; exact hnb ⟨h0, e⟩))
            have Cv9 := Lib.hid (show Ch (fun x => In an cn x ∨ x = bo) v3 v9 from (hS4.1.1.1.mono (fun _ _ h => .inl h)).trans (Ch.ofSome (S := fun x => In an cn x ∨ x = bo) hg9 (.inr rfl)) (fun _ _ h => h))
            have Iv9 := Lib.hid (show ∀ x, In (some ⟨gv9, 0, none⟩) cv9 x → In an cn x ∨ v3.heap.size ≤ x from fun x hx => (hgr8.inn hx).imp id (fun h => Nat.le_trans (show v3.heap.size ≤ u3.heap.size from HS3.out.1.1.size) h))
            clear HKK HS2 HK3 HS3 hnews hzb hFn hrun hown8 hgr8 hS4 hK4 hrow4 hc4 hf4 hw9 hg9 hown4 hnb hu26
            refine ⟨by first | rfl | trivial, ?_⟩
            have HT7 := Lib.hid (HT6.out.ch Cv9.out (fun h => by rcases h with h | h; exact row_in HT6.out HO6.out (by decide) h; have := HBB.out; omega))
            have HN7 := Lib.hid (HN6.out.ch Cv9.out (fun h => by rcases h with h | h; exact row_in HN6.out HO6.out (by decide) h; have := HBB.out; omega))
            have HG7 := Lib.hid (Ch.fresh HG6.out Cv9.out (fun g hg h => by rcases h with h | h; have h1 := (Own.inn HO6.out h).1; have h2 := HBB.out; omega; have := HBB.out; omega))
            have HZ7 := Lib.hid (Nat.le_trans HZ6.out Cv9.out.size)
            go_wp2_with fail
            go_roundw
            case rel =>
              refine ⟨(j + 1), _, _, by omega, by first | rfl | go_num, Rv9.out, ?_, HT7.out, HN7.out, HG7.out, HZ7.out, fun i hi => ?_⟩
              · have h := Ov9.out
                have e : (T.take ((j + 1))).map byN = (T.take (j)).map byN ++ [X] := by
                  rw [List.take_succ_eq_append_getElem hjl, List.map_append, List.map_singleton]
                  congr 2
                  rw [HXX.out, HXT.out, List.getD_eq_getElem?_getD, List.getElem?_eq_getElem hjl]
                  rfl
                rw [e]
                unfold IOwn IV
                rw [List.map_append]
                exact h
              · by_cases e : i = j
                · rw [e]; exact HK0'.out
                · exact HOK.out i (by omega)
            case measure => simp [intOf]; omega
          · have hd : decide (X ≤ Y) = true := decide_eq_true (by omega)
            have hbad : firstBad T = j := firstBad_at hjl HOK.out (by
              rw [HOJ.out, decide_eq_false hj0, decide_eq_false (show ¬ (T.getD (j - 1) 0).toNat < x.toNat by have := HXX.out; omega)]
              simp)
            clear hY hx5
            go_upto_region 18 with fail
            go_quiet (fail)
            obtain ⟨v3, h3⟩ : ∃ v3, v3 = wr.drewN nq := ⟨_, rfl⟩
            rw [← h3]
            have g3 : wr.grownBy v3 none := h3 ▸ grownBy_drewN _ _ _
            have HR6 := Lib.hid (HR.out.grown g3)
            have HO6 := Lib.hid (show IOwn v3 B an j cn ((T.take j).map byN) from Own.grownNone HO.out g3)
            have HT6 := Lib.hid (HT.out.grown g3)
            have HN6 := Lib.hid (HN.out.grown g3)
            have HG6 := Lib.hid (grownBy_trans HG.out g3)
            have HZ6 := Lib.hid (Nat.le_trans HZ.out g3.size)
            clear h3 g3
            go_wp2_with (first | (refine wpList_load_row rfl 26 _ rfl bn rfl 26 #[.int .u8 0, .slice none 0 0, .slice none 0 0] (0, 0) _ HN6.out Try.underlying26 rfl (by kernel_rfl) ?_) | (refine wpList_putrow rfl rfl w.heap.size rfl #[.int .u8 0, .slice none 0 0, .slice none 0 0] rfl HT6.out (by kernel_rfl) rfl (by simp [Value.oneCell']) ?_; intro W5 hg5 hr5; have HG5 := Lib.hid hg5; have HR5 := Lib.hid hr5; clear hg5 hr5))
            refine bodyPost_ret (results_ctt rfl _ _ w.heap.size 26 #[.int .u8 0, .slice none 0 0, .slice none 0 0] (0, 0) _ _ _ rfl rfl rfl HR5.out Try.underlying26 rfl (by kernel_rfl)) rfl ?_
            rw [HD.out, if_pos (by rw [hbad]; exact hjl), hbad]
            exact repP_err (2 + j) _ (by omega) (grownBy_old HG6.out HG5.out (Nat.le_refl _))
    · obtain rfl : j = q := by omega
      have hall : firstBad T = T.length := firstBad_none (fun i hi => HOK.out i (by have := HTL.out; omega))
      have k1 := Row.cell HR.out 0
      simp at k1
      rcases Nat.lt_trichotomy n (2 + M) with hcmp | hcmp | hcmp
      · have HNM := Lib.hid hcmp
        have HQN := Lib.hid (show j + 2 = n by have := HQMIN.out; omega)
        have j1 : decide ((n : Int) < 2 + (M : Int)) = true := decide_eq_true (by omega)
        have j2 : decide (2 + (M : Int) < (n : Int)) = false := decide_eq_false (by omega)
        clear hcmp
        have hdl : T.length = j := HTL.out
        have hjM : decide ((j : Int) < (M : Int)) = true := decide_eq_true (by have := HNM.out; have := HQN.out; omega)
        have hjM2 : decide (j < M) = true := decide_eq_true (by have := HNM.out; have := HQN.out; omega)
        have hjn : decide (2 + (j : Int) < (n : Int)) = false := decide_eq_false (by have := HQN.out; omega)
        have hjn2 : decide (2 + j < n) = false := decide_eq_false (by have := HQN.out; omega)
        go_wp2_with (first | (refine wpList_load_row rfl 26 _ rfl bn rfl 26 #[.int .u8 0, .slice none 0 0, .slice none 0 0] (0, 0) _ HN.out Try.underlying26 rfl (by kernel_rfl) ?_) | (refine wpList_putrow rfl rfl w.heap.size rfl #[.int .u8 0, .slice none 0 0, .slice none 0 0] rfl HT.out (by kernel_rfl) rfl (by simp [Value.oneCell']) ?_; intro W5 hg5 hr5; have HG5 := Lib.hid hg5; have HR5 := Lib.hid hr5; clear hg5 hr5))
        refine bodyPost_ret (results_ctt rfl _ _ w.heap.size 26 #[.int .u8 0, .slice none 0 0, .slice none 0 0] (0, 0) _ _ _ rfl rfl rfl HR5.out Try.underlying26 rfl (by kernel_rfl)) rfl ?_
        rw [HD.out, if_neg (by rw [hall]; omega), if_pos (by rw [HNN.out, ← HMM.out]; have := HNM.out; omega), HNN.out, ← HMM.out, show min n (2 + M) = n from by have := HNM.out; omega]
        exact repP_err (n) _ (rfl) (grownBy_old HG.out HG5.out (Nat.le_refl _))
      · have HNM := Lib.hid hcmp
        have HQN := Lib.hid (show j + 2 = n by have := HQMIN.out; omega)
        have j1 : decide ((n : Int) < 2 + (M : Int)) = false := decide_eq_false (by omega)
        have j2 : decide (2 + (M : Int) < (n : Int)) = false := decide_eq_false (by omega)
        clear hcmp
        have hdl : T.length = j := HTL.out
        have hjM : decide ((j : Int) < (M : Int)) = false := decide_eq_false (by have := HNM.out; have := HQN.out; omega)
        have hjM2 : decide (j < M) = false := decide_eq_false (by have := HNM.out; have := HQN.out; omega)
        go_wp2_with (first | (refine wpList_load_row rfl 26 _ rfl bo rfl 26 #[.int .u8 1, .slice an j cn, .slice none 0 0] (0, 0) _ HR.out Try.underlying26 rfl (by kernel_rfl) ?_) | (refine wpList_putrow rfl rfl w.heap.size rfl #[.int .u8 1, .slice an j cn, .slice none 0 0] rfl HT.out (by kernel_rfl) rfl (by simp [Value.oneCell']) ?_; intro W5 hg5 hr5; have HG5 := Lib.hid hg5; have HR5 := Lib.hid hr5; clear hg5 hr5))
        refine bodyPost_ret (results_ctt rfl _ _ w.heap.size 26 #[.int .u8 1, .slice an j cn, .slice none 0 0] (0, 0) _ _ _ rfl rfl rfl HR5.out Try.underlying26 rfl (by kernel_rfl)) rfl ?_
        have ho5 := Own.ch HO.out (Ch.ofSome (S := fun k => k = w.heap.size) HG5.out rfl) (fun h0 g e h => by
          have h1 := (Own.inn HO.out (g := g) ⟨h0, e⟩).1
          have h2 := HBB.out
          omega)
        have hT2 : T = l.drop 2 := by
          rw [HTT.out]
          exact List.take_of_length_le (by rw [List.length_drop, HNN.out]; have := HNM.out; have := HMM.out; omega)
        rw [HD.out, if_neg (by rw [hall]; omega), if_neg (by rw [HNN.out, ← HMM.out]; have := HNM.out; omega)]
        refine ⟨_, _, _, none, 0, 0, rfl, ?_, Own.nil _ _ _ _ _, grownBy_old HG.out HG5.out (Nat.le_refl _)⟩
        rw [List.take_of_length_le (by have := HTL.out; omega), hT2] at ho5
        exact Own.mono ho5 (by have := HBB.out; omega)
      · have HNM := Lib.hid hcmp
        have HQN := Lib.hid (show j = M by have := HQMIN.out; omega)
        have j1 : decide ((n : Int) < 2 + (M : Int)) = false := decide_eq_false (by omega)
        have j2 : decide (2 + (M : Int) < (n : Int)) = true := decide_eq_true (by omega)
        clear hcmp
        have hdl : T.length = j := HTL.out
        have hjM : decide ((j : Int) < (M : Int)) = false := decide_eq_false (by have := HNM.out; have := HQN.out; omega)
        have hjM2 : decide (j < M) = false := decide_eq_false (by have := HNM.out; have := HQN.out; omega)
        go_wp2_with (first | (refine wpList_load_row rfl 26 _ rfl bn rfl 26 #[.int .u8 0, .slice none 0 0, .slice none 0 0] (0, 0) _ HN.out Try.underlying26 rfl (by kernel_rfl) ?_) | (refine wpList_putrow rfl rfl w.heap.size rfl #[.int .u8 0, .slice none 0 0, .slice none 0 0] rfl HT.out (by kernel_rfl) rfl (by simp [Value.oneCell']) ?_; intro W5 hg5 hr5; have HG5 := Lib.hid hg5; have HR5 := Lib.hid hr5; clear hg5 hr5))
        refine bodyPost_ret (results_ctt rfl _ _ w.heap.size 26 #[.int .u8 0, .slice none 0 0, .slice none 0 0] (0, 0) _ _ _ rfl rfl rfl HR5.out Try.underlying26 rfl (by kernel_rfl)) rfl ?_
        rw [HD.out, if_neg (by rw [hall]; omega), if_pos (by rw [HNN.out, ← HMM.out]; have := HNM.out; omega), HNN.out, ← HMM.out, show min n (2 + M) = 2 + M from by have := HNM.out; omega]
        exact repP_err (2 + M) _ (by omega) (grownBy_old HG.out HG5.out (Nat.le_refl _))
end Go.Proofs.Ytkdmebcfedehiaa
/- The document's Reply of all bytes. Printed by gens/wireref_d.py. -/
namespace Go.Proofs.Ytkdmebcfedehiaa
open Go.RowKit

theorem refRep_n (a : Option Addr) (n c : Nat) (l : List UInt8) (w : World) (hl : BLies w a l) (hn : l.length = n) (hc : n ≤ c) (hnm : n ≤ 140737488355328) :
    Calls Try.prog 39 #[.slice a n c] w fun e w' => RepP w (decR l) e w' := by
  rcases Nat.eq_zero_or_pos n with h0 | h0
  · exact refRep_empty a n c l w hl hn hnm h0
  obtain ⟨b, off, ha, _⟩ := bytes_cells hl (by omega)
  by_cases h1 : (l.getD 0 0).toNat = 1
  · have hK : (1 : Int) = ((l.getD 0 0).toNat : Int) := by omega
    by_cases h2 : n < 2
    · exact refRep_1a a n c l w hl hn hnm hc b off ha hK h0 h2
    exact refRep_1 a n c l w hl hn hnm hc b off ha hK h0 (by omega)
  by_cases h5 : (l.getD 0 0).toNat = 5
  · have hK : (5 : Int) = ((l.getD 0 0).toNat : Int) := by omega
    by_cases h2 : n < 5
    · exact refRep_5a a n c l w hl hn hnm hc b off ha hK h0 h2
    by_cases x1 : getN l 1 4 < 1
    · exact refRep_5b a n c l w hl hn hnm hc b off ha hK h0 (by omega) x1
    by_cases x2 : 131072 < getN l 1 4
    · exact refRep_5c a n c l w hl hn hnm hc b off ha hK h0 (by omega) x2
    rcases Nat.lt_trichotomy n (5 + getN l 1 4) with h | h | h
    · exact refRep_5d a n c l w hl hn hnm hc b off ha hK h0 (by omega) ⟨by omega, by omega⟩ h
    · exact refRep_5f a n c l w hl hn hnm hc b off ha hK h0 (by omega) ⟨by omega, by omega⟩ h
    · exact refRep_5e a n c l w hl hn hnm hc b off ha hK h0 (by omega) ⟨by omega, by omega⟩ h
  by_cases hk : (l.getD 0 0).toNat < 1 ∨ 7 < (l.getD 0 0).toNat
  · exact refRep_kind a n c l w hl hn hnm _ b off ha rfl h0 (by omega)
  · exact refRep_plain a n c l w hl hn hnm _ b off ha rfl h0 (by omega) (by omega) (by omega) (by omega)
end Go.Proofs.Ytkdmebcfedehiaa
