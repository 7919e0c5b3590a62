/- aes: Spread, Gather; the document's. -/
import Derived.Test.YtlnmglddialhjaaAesBlk
namespace Go.Proofs.Ytlnmglddialhjaa
open Go.RowKit

/-- the spreading, step by step -/
def spF (l : List UInt8) (k : Nat) (o : List UInt8) : List UInt8 := o.set (k % 4 * 4 + k / 4) (l.getD k 0)
theorem spF_len (l : List UInt8) : ∀ k o, (spF l k o).length = o.length := fun k o => by simp [spF]
theorem sp_end {l : List UInt8} (hl : l.length = 16) : iterU (spF l) z16 16 = trL l := by
  obtain ⟨x0, x1, x2, x3, x4, x5, x6, x7, x8, x9, x10, x11, x12, x13, x14, x15, rfl⟩ := ex16 hl
  rfl

set_option maxRecDepth 100000 in
set_option maxHeartbeats 1000000 in
theorem spread_n (l : List UInt8) (hl : l.length = 16) (w : World) : Calls Try.prog 24 #[aggB l] w fun e w' => e = .returned (aggB (trL l)) ∧ w.grownBy w' none := by
  unfold aggB
  have hidx : ∀ (j : Nat) (w : World), j < 16 → (Instr.index 27 (.agg (cellsB l)) (.int .i64 (j : Int))).run Try.prog w = .ok (.int .u8 ((l.getD j 0).toNat : Int)) w :=
    fun j w hj => run_index_arr (k := .i64) Try.underlying27 Try.underlying5 (by kernel_rfl) _ _ _ hj (cellsB_get l j (by omega)) w
  obtain ⟨hb, hr, hs, hg⟩ := three w l z16 z16 27 33 33
  have HR := Lib.hid hr
  have HS := Lib.hid hs
  have HG := Lib.hid hg
  have HB := Lib.hid hb
  clear hr hg hs hb
  go_enter Try.func24, Try.ntmps24
  go_wp2_with (refine wpList_load_row rfl 27 _ rfl w.heap.size rfl 27 (cellsB l) (0, 0) _ HB.out Try.underlying27 rfl (by rw [size_block, cellsB_size, hl]) ?_)
  go_loopw [7] (fun vi wr => ∃ k : Nat, k ≤ 16 ∧ vi = .int .i64 k ∧ Blk wr (w.heap.size + 1) 33 z16 ∧ Blk wr (w.heap.size + 1 + 1) 33 (iterU (spF l) z16 k) ∧ w.grownBy wr none) (fun vi _ => 16 - (intOf vi).toNat)
  case atStart => exact ⟨0, by omega, rfl, HR.out, HS.out, HG.out⟩
  case round =>
    obtain ⟨k, hk, rfl, hr, hs, hg⟩ := hrel
    have HRR := Lib.hid hr
    have HGG := Lib.hid hg
    have hlen : (iterU (spF l) z16 k).length = 16 := iterU_len (spF_len l) k
    have hcell := hs.cell 16 hlen
    have hfree := hs.free
    have HSS := Lib.hid hs
    clear hr hg hs hlen
    by_cases hlt : k < 16
    · have hi := fun w => hidx k w hlt
      have hj : k % 4 * 4 + k / 4 < 16 := by omega
      have hcj := hcell _ hj
      obtain ⟨u0, hu0⟩ : ∃ u0, wr.cell? ⟨w.heap.size + 1 + 1, k % 4 * 4 + k / 4, none⟩ = some u0 := ⟨_, hcj⟩
      have hset := HSS.out.set (k % 4 * 4 + k / 4) (l.getD k 0)
      have he : iterU (spF l) z16 (k + 1) = (iterU (spF l) z16 k).set (k % 4 * 4 + k / 4) (l.getD k 0) := rfl
      obtain ⟨x, hx⟩ : ∃ x, x = l.getD k 0 := ⟨_, rfl⟩
      rw [← hx] at hset hi he
      rw [← he] at hset
      have HSET := Lib.hid hset
      clear hset HSS hcell hcj hidx hj hx he
      go_wp2_with fail
      go_roundw
      case rel => exact ⟨k + 1, by omega, by go_num, HRR.out.other (by omega), HSET.out, grownBy_old HGG.out (grownBy_setCell _ _ _ _) (by omega)⟩
      case measure => simp [intOf]; omega
    · obtain rfl : k = 16 := by omega
      clear hcell hfree hidx
      have hs := HSS.out
      rw [sp_end hl] at hs
      have HS2 := Lib.hid hs
      clear hs HSS
      go_wp2_with (first | (refine wpList_load_row rfl 33 _ rfl (w.heap.size + 1 + 1) rfl 33 (cellsB (trL l)) (0, 0) _ HS2.out Try.underlying33 rfl (by rw [size_state, cellsB_size, trL_len hl]) ?_) | (refine wpList_store_row rfl 33 _ _ rfl (w.heap.size + 1) (cellsB (trL l)) rfl rfl 33 _ HRR.out (by rw [size_state, cellsB_size, trL_len hl]) (by rw [cellsB_size, cellsB_size, trL_len hl]; rfl) (cellsB_one _) ?_))
      refine bodyPost_ret (v := .agg (cellsB (trL l))) (results_cell_row rfl _ _ (w.heap.size + 1) 33 (cellsB (trL l)) (0, 0) _ rfl (setRow_heap _ _ _ _ _ _ HRR.out) Try.underlying33 rfl (by rw [size_state, cellsB_size, trL_len hl])) rfl ⟨rfl, ?_⟩
      exact grownBy_old HGG.out (grownBy_setRow _ _ _) (by omega)

-- GATHER
def gaF (l : List UInt8) (k : Nat) (o : List UInt8) : List UInt8 := o.set k (l.getD (k % 4 * 4 + k / 4) 0)
theorem gaF_len (l : List UInt8) : ∀ k o, (gaF l k o).length = o.length := fun k o => by simp [gaF]
theorem ga_end {l : List UInt8} (hl : l.length = 16) : iterU (gaF l) z16 16 = trL l := by
  obtain ⟨x0, x1, x2, x3, x4, x5, x6, x7, x8, x9, x10, x11, x12, x13, x14, x15, rfl⟩ := ex16 hl
  rfl

set_option maxRecDepth 100000 in
set_option maxHeartbeats 1000000 in
theorem gather_n (l : List UInt8) (hl : l.length = 16) (w : World) : Calls Try.prog 26 #[aggB l] w fun e w' => e = .returned (aggB (trL l)) ∧ w.grownBy w' none := by
  unfold aggB
  obtain ⟨hb, hr, hs, hg⟩ := three w l z16 z16 33 27 27
  have HR := Lib.hid hr
  have HS := Lib.hid hs
  have HG := Lib.hid hg
  have HB := Lib.hid hb
  clear hr hg hs hb
  go_enter Try.func26, Try.ntmps26
  go_wp2_with fail
  go_loopw [5] (fun vi wr => ∃ k : Nat, k ≤ 16 ∧ vi = .int .i64 k ∧ Blk wr w.heap.size 33 l ∧ Blk wr (w.heap.size + 1) 27 z16 ∧ Blk wr (w.heap.size + 1 + 1) 27 (iterU (gaF l) z16 k) ∧ w.grownBy wr none) (fun vi _ => 16 - (intOf vi).toNat)
  case atStart => exact ⟨0, by omega, rfl, HB.out, HR.out, HS.out, HG.out⟩
  case round =>
    obtain ⟨k, hk, rfl, hb, hr, hs, hg⟩ := hrel
    have HBB := Lib.hid hb
    have HRR := Lib.hid hr
    have HGG := Lib.hid hg
    have hlen : (iterU (gaF l) z16 k).length = 16 := iterU_len (gaF_len l) k
    have hcell := hs.cell 16 hlen
    have hfree := hs.free
    have HSS := Lib.hid hs
    clear hr hg hs hlen hb
    by_cases hlt : k < 16
    · have hci := HBB.out.cell 16 hl (k % 4 * 4 + k / 4) (by omega)
      have hj : k < 16 := by omega
      have hcj := hcell _ hj
      obtain ⟨u0, hu0⟩ : ∃ u0, wr.cell? ⟨w.heap.size + 1 + 1, k, none⟩ = some u0 := ⟨_, hcj⟩
      have hset := HSS.out.set (k) (l.getD (k % 4 * 4 + k / 4) 0)
      have he : iterU (gaF l) z16 (k + 1) = (iterU (gaF l) z16 k).set (k) (l.getD (k % 4 * 4 + k / 4) 0) := rfl
      obtain ⟨x, hx⟩ : ∃ x, x = l.getD (k % 4 * 4 + k / 4) 0 := ⟨_, rfl⟩
      rw [← hx] at hset hci he
      rw [← he] at hset
      have HSET := Lib.hid hset
      clear hset HSS hcell hcj hj hx he
      go_wp2_with fail
      go_roundw
      case rel => exact ⟨k + 1, by omega, by go_num, HBB.out.other (by omega), HRR.out.other (by omega), HSET.out, grownBy_old HGG.out (grownBy_setCell _ _ _ _) (by omega)⟩
      case measure => simp [intOf]; omega
    · obtain rfl : k = 16 := by omega
      clear hcell hfree
      have hs := HSS.out
      rw [ga_end hl] at hs
      have HS2 := Lib.hid hs
      clear hs HSS
      go_wp2_with (first | (refine wpList_load_row rfl 27 _ rfl (w.heap.size + 1 + 1) rfl 27 (cellsB (trL l)) (0, 0) _ HS2.out Try.underlying27 rfl (by rw [size_block, cellsB_size, trL_len hl]) ?_) | (refine wpList_store_row rfl 27 _ _ rfl (w.heap.size + 1) (cellsB (trL l)) rfl rfl 27 _ HRR.out (by rw [size_block, cellsB_size, trL_len hl]) (by rw [cellsB_size, cellsB_size, trL_len hl]; rfl) (cellsB_one _) ?_))
      refine bodyPost_ret (v := .agg (cellsB (trL l))) (results_cell_row rfl _ _ (w.heap.size + 1) 27 (cellsB (trL l)) (0, 0) _ rfl (setRow_heap _ _ _ _ _ _ HRR.out) Try.underlying27 rfl (by rw [size_block, cellsB_size, trL_len hl])) rfl ⟨rfl, ?_⟩
      exact grownBy_old HGG.out (grownBy_setRow _ _ _) (by omega)

set_option maxRecDepth 100000 in
set_option maxHeartbeats 1000000 in
theorem refSpread_n (l : List UInt8) (hl : l.length = 16) (w : World) : Calls Try.prog 25 #[aggB l] w fun e w' => e = .returned (aggB (trL l)) ∧ w.grownBy w' none := by
  unfold aggB
  obtain ⟨hb, hr, hs, hg⟩ := three w l z16 z16 27 33 33
  have HR := Lib.hid hr
  have HS := Lib.hid hs
  have HG := Lib.hid hg
  have HB := Lib.hid hb
  clear hr hg hs hb
  go_enter Try.func25, Try.ntmps25
  go_wp2_with fail
  go_loopw [4] (fun vi wr => ∃ k : Nat, k ≤ 16 ∧ vi = .int .i64 k ∧ Blk wr w.heap.size 27 l ∧ Blk wr (w.heap.size + 1) 33 z16 ∧ Blk wr (w.heap.size + 1 + 1) 33 (iterU (spF l) z16 k) ∧ w.grownBy wr none) (fun vi _ => 16 - (intOf vi).toNat)
  case atStart => exact ⟨0, by omega, rfl, HB.out, HR.out, HS.out, HG.out⟩
  case round =>
    obtain ⟨k, hk, rfl, hb, hr, hs, hg⟩ := hrel
    have HBB := Lib.hid hb
    have HRR := Lib.hid hr
    have HGG := Lib.hid hg
    have hlen : (iterU (spF l) z16 k).length = 16 := iterU_len (spF_len l) k
    have hcell := hs.cell 16 hlen
    have hfree := hs.free
    have HSS := Lib.hid hs
    clear hr hg hs hlen hb
    by_cases hlt : k < 16
    · have hci := HBB.out.cell 16 hl (k) (by omega)
      have hj : k % 4 * 4 + k / 4 < 16 := by omega
      have hcj := hcell _ hj
      obtain ⟨u0, hu0⟩ : ∃ u0, wr.cell? ⟨w.heap.size + 1 + 1, k % 4 * 4 + k / 4, none⟩ = some u0 := ⟨_, hcj⟩
      have hset := HSS.out.set (k % 4 * 4 + k / 4) (l.getD (k) 0)
      have he : iterU (spF l) z16 (k + 1) = (iterU (spF l) z16 k).set (k % 4 * 4 + k / 4) (l.getD (k) 0) := rfl
      obtain ⟨x, hx⟩ : ∃ x, x = l.getD (k) 0 := ⟨_, rfl⟩
      rw [← hx] at hset hci he
      rw [← he] at hset
      have HSET := Lib.hid hset
      clear hset HSS hcell hcj hj hx he
      go_wp2_with fail
      go_region
      go_wp2
      go_roundw
      case rel => exact ⟨k + 1, by omega, by go_num, (HBB.out.other (by omega)).dr, (HRR.out.other (by omega)).dr, HSET.out.dr, grownBy_d1 (grownBy_old HGG.out (grownBy_setCell _ _ _ _) (by omega))⟩
      case measure => simp [intOf]; omega
    · obtain rfl : k = 16 := by omega
      clear hcell hfree
      have hs := HSS.out
      rw [sp_end hl] at hs
      have HS2 := Lib.hid hs
      clear hs HSS
      go_wp2_with (first | (refine wpList_load_row rfl 33 _ rfl (w.heap.size + 1 + 1) rfl 33 (cellsB (trL l)) (0, 0) _ HS2.out Try.underlying33 rfl (by rw [size_state, cellsB_size, trL_len hl]) ?_) | (refine wpList_store_row rfl 33 _ _ rfl (w.heap.size + 1) (cellsB (trL l)) rfl rfl 33 _ HRR.out (by rw [size_state, cellsB_size, trL_len hl]) (by rw [cellsB_size, cellsB_size, trL_len hl]; rfl) (cellsB_one _) ?_))
      refine bodyPost_ret (v := .agg (cellsB (trL l))) (results_cell_row rfl _ _ (w.heap.size + 1) 33 (cellsB (trL l)) (0, 0) _ rfl (setRow_heap _ _ _ _ _ _ HRR.out) Try.underlying33 rfl (by rw [size_state, cellsB_size, trL_len hl])) rfl ⟨rfl, ?_⟩
      exact grownBy_old HGG.out (grownBy_setRow _ _ _) (by omega)

set_option maxRecDepth 100000 in
set_option maxHeartbeats 1000000 in
theorem refGather_n (l : List UInt8) (hl : l.length = 16) (w : World) : Calls Try.prog 27 #[aggB l] w fun e w' => e = .returned (aggB (trL l)) ∧ w.grownBy w' none := by
  unfold aggB
  obtain ⟨hb, hr, hs, hg⟩ := three w l z16 z16 33 27 27
  have HR := Lib.hid hr
  have HS := Lib.hid hs
  have HG := Lib.hid hg
  have HB := Lib.hid hb
  clear hr hg hs hb
  go_enter Try.func27, Try.ntmps27
  go_wp2_with fail
  go_loopw [4] (fun vi wr => ∃ k : Nat, k ≤ 16 ∧ vi = .int .i64 k ∧ Blk wr w.heap.size 33 l ∧ Blk wr (w.heap.size + 1) 27 z16 ∧ Blk wr (w.heap.size + 1 + 1) 27 (iterU (gaF l) z16 k) ∧ w.grownBy wr none) (fun vi _ => 16 - (intOf vi).toNat)
  case atStart => exact ⟨0, by omega, rfl, HB.out, HR.out, HS.out, HG.out⟩
  case round =>
    obtain ⟨k, hk, rfl, hb, hr, hs, hg⟩ := hrel
    have HBB := Lib.hid hb
    have HRR := Lib.hid hr
    have HGG := Lib.hid hg
    have hlen : (iterU (gaF l) z16 k).length = 16 := iterU_len (gaF_len l) k
    have hcell := hs.cell 16 hlen
    have hfree := hs.free
    have HSS := Lib.hid hs
    clear hr hg hs hlen hb
    by_cases hlt : k < 16
    · have hci := HBB.out.cell 16 hl (k % 4 * 4 + k / 4) (by omega)
      have hj : k < 16 := by omega
      have hcj := hcell _ hj
      obtain ⟨u0, hu0⟩ : ∃ u0, wr.cell? ⟨w.heap.size + 1 + 1, k, none⟩ = some u0 := ⟨_, hcj⟩
      have hset := HSS.out.set (k) (l.getD (k % 4 * 4 + k / 4) 0)
      have he : iterU (gaF l) z16 (k + 1) = (iterU (gaF l) z16 k).set (k) (l.getD (k % 4 * 4 + k / 4) 0) := rfl
      obtain ⟨x, hx⟩ : ∃ x, x = l.getD (k % 4 * 4 + k / 4) 0 := ⟨_, rfl⟩
      rw [← hx] at hset hci he
      rw [← he] at hset
      have HSET := Lib.hid hset
      clear hset HSS hcell hcj hj hx he
      go_wp2_with fail
      go_roundw
      case rel => exact ⟨k + 1, by omega, by go_num, HBB.out.other (by omega), HRR.out.other (by omega), HSET.out, grownBy_old HGG.out (grownBy_setCell _ _ _ _) (by omega)⟩
      case measure => simp [intOf]; omega
    · obtain rfl : k = 16 := by omega
      clear hcell hfree
      have hs := HSS.out
      rw [ga_end hl] at hs
      have HS2 := Lib.hid hs
      clear hs HSS
      go_wp2_with (first | (refine wpList_load_row rfl 27 _ rfl (w.heap.size + 1 + 1) rfl 27 (cellsB (trL l)) (0, 0) _ HS2.out Try.underlying27 rfl (by rw [size_block, cellsB_size, trL_len hl]) ?_) | (refine wpList_store_row rfl 27 _ _ rfl (w.heap.size + 1) (cellsB (trL l)) rfl rfl 27 _ HRR.out (by rw [size_block, cellsB_size, trL_len hl]) (by rw [cellsB_size, cellsB_size, trL_len hl]; rfl) (cellsB_one _) ?_))
      refine bodyPost_ret (v := .agg (cellsB (trL l))) (results_cell_row rfl _ _ (w.heap.size + 1) 27 (cellsB (trL l)) (0, 0) _ rfl (setRow_heap _ _ _ _ _ _ HRR.out) Try.underlying27 rfl (by rw [size_block, cellsB_size, trL_len hl])) rfl ⟨rfl, ?_⟩
      exact grownBy_old HGG.out (grownBy_setRow _ _ _) (by omega)

end Go.Proofs.Ytlnmglddialhjaa
