/- aes: shifted, Shift, Unshift; the document's. -/
import Derived.Test.YtlnmglddialhjaaAesSpread
namespace Go.Proofs.Ytlnmglddialhjaa
open Go.RowKit

/-- two loops, one in the other -/
def iter2 (F : Nat → Nat → List UInt8 → List UInt8) (o : List UInt8) (r : Nat) : List UInt8 := iterU (fun r o => iterU (F r) o 4) o r
theorem iter2_len {F : Nat → Nat → List UInt8 → List UInt8} {o : List UInt8} (hF : ∀ r c l, (F r c l).length = l.length) (r : Nat) : (iter2 F o r).length = o.length :=
  iterU_len (fun r l => iterU_len (hF r) 4) r

def shF (b : Nat) (l : List UInt8) (r c : Nat) (o : List UInt8) : List UInt8 := o.set (r * 4 + c) (l.getD (r * 4 + (c + b * r) % 4) 0)
theorem shF_len (b : Nat) (l : List UInt8) : ∀ r c o, (shF b l r c o).length = o.length := fun r c o => by simp [shF]
theorem sh1_end {l : List UInt8} (hl : l.length = 16) : iter2 (shF 1 l) z16 4 = shL l := by
  obtain ⟨x0, x1, x2, x3, x4, x5, x6, x7, x8, x9, x10, x11, x12, x13, x14, x15, rfl⟩ := ex16 hl
  rfl
theorem sh3_end {l : List UInt8} (hl : l.length = 16) : iter2 (shF 3 l) z16 4 = unshL l := by
  obtain ⟨x0, x1, x2, x3, x4, x5, x6, x7, x8, x9, x10, x11, x12, x13, x14, x15, rfl⟩ := ex16 hl
  rfl
def rshF (l : List UInt8) (k : Nat) (o : List UInt8) : List UInt8 := o.set (k % 4 * 4 + k / 4) (l.getD (k % 4 * 4 + (k / 4 + k) % 4) 0)
theorem rshF_len (l : List UInt8) : ∀ k o, (rshF l k o).length = o.length := fun k o => by simp [rshF]
theorem rsh_end {l : List UInt8} (hl : l.length = 16) : iterU (rshF l) z16 16 = shL l := by
  obtain ⟨x0, x1, x2, x3, x4, x5, x6, x7, x8, x9, x10, x11, x12, x13, x14, x15, rfl⟩ := ex16 hl
  rfl
def runF (l : List UInt8) (k : Nat) (o : List UInt8) : List UInt8 := o.set (k % 4 * 4 + (k / 4 + k) % 4) (l.getD (k % 4 * 4 + k / 4) 0)
theorem runF_len (l : List UInt8) : ∀ k o, (runF l k o).length = o.length := fun k o => by simp [runF]
theorem run_end {l : List UInt8} (hl : l.length = 16) : iterU (runF l) z16 16 = unshL l := by
  obtain ⟨x0, x1, x2, x3, x4, x5, x6, x7, x8, x9, x10, x11, x12, x13, x14, x15, rfl⟩ := ex16 hl
  rfl

set_option maxRecDepth 100000 in
set_option maxHeartbeats 1000000 in
theorem shifted1_n (l : List UInt8) (hl : l.length = 16) (w : World) : Calls Try.prog 57 #[aggB l, .int .i64 1] w fun e w' => e = .returned (aggB (shL l)) ∧ w.grownBy w' none := by
  unfold aggB
  obtain ⟨hb, hr, hs, hg⟩ := three w l z16 z16 33 33 33
  have HR := Lib.hid hr
  have HS := Lib.hid hs
  have HG := Lib.hid hg
  have HB := Lib.hid hb
  clear hr hg hs hb
  go_enter Try.func57, Try.ntmps57
  go_wp2_with fail
  go_loopw [8] (fun vi wr => ∃ k : Nat, k ≤ 4 ∧ vi = .int .i64 k ∧ Blk wr w.heap.size 33 l ∧ Blk wr (w.heap.size + 1) 33 z16 ∧ Blk wr (w.heap.size + 1 + 1) 33 (iter2 (shF 1 l) z16 k) ∧ w.grownBy wr none) (fun vi _ => 4 - (intOf vi).toNat)
  case atStart => exact ⟨0, by omega, rfl, HB.out, HR.out, HS.out, HG.out⟩
  case round =>
    obtain ⟨r, hk, rfl, hb, hr, hs, hg⟩ := hrel
    have HBB := Lib.hid hb
    have HRR := Lib.hid hr
    have HGG := Lib.hid hg
    have HSS := Lib.hid hs
    clear hr hg hs hb
    by_cases hlt : r < 4
    · go_wp2_with fail
      go_loopw [11] (fun vi wr => ∃ k : Nat, k ≤ 4 ∧ vi = .int .i64 k ∧ Blk wr w.heap.size 33 l ∧ Blk wr (w.heap.size + 1) 33 z16 ∧ Blk wr (w.heap.size + 1 + 1) 33 (iterU (shF 1 l r) (iter2 (shF 1 l) z16 r) k) ∧ w.grownBy wr none) (fun vi _ => 4 - (intOf vi).toNat)
      case atStart => exact ⟨0, by omega, rfl, HBB.out, HRR.out, HSS.out, HGG.out⟩
      case round =>
        clear HBB HRR HGG HSS
        obtain ⟨c, hk, rfl, hb, hr, hs, hg⟩ := hrel
        have HBB := Lib.hid hb
        have HRR := Lib.hid hr
        have HGG := Lib.hid hg
        have hlen : (iterU (shF 1 l r) (iter2 (shF 1 l) z16 r) c).length = 16 := (iterU_len (shF_len 1 l r) c).trans (iter2_len (shF_len 1 l) r)
        have hcell := hs.cell 16 hlen
        have hfree := hs.free
        have HSS := Lib.hid hs
        clear hr hg hs hlen hb
        by_cases hlc : c < 4
        · have hci := HBB.out.cell 16 hl (r * 4 + (c + 1 * r) % 4) (by omega)
          have hj : r * 4 + c < 16 := by omega
          have hcj := hcell _ hj
          obtain ⟨u0, hu0⟩ : ∃ u0, wr.cell? ⟨w.heap.size + 1 + 1, r * 4 + c, none⟩ = some u0 := ⟨_, hcj⟩
          have hset := HSS.out.set (r * 4 + c) (l.getD (r * 4 + (c + 1 * r) % 4) 0)
          have he : iterU (shF 1 l r) (iter2 (shF 1 l) z16 r) (c + 1) = (iterU (shF 1 l r) (iter2 (shF 1 l) z16 r) c).set (r * 4 + c) (l.getD (r * 4 + (c + 1 * r) % 4) 0) := rfl
          obtain ⟨x, hx⟩ : ∃ x, x = l.getD (r * 4 + (c + 1 * r) % 4) 0 := ⟨_, rfl⟩
          rw [← hx] at hset hci he
          rw [← he] at hset
          have HSET := Lib.hid hset
          clear hset HSS hcell hcj hj hx he
          simp only [Nat.one_mul] at hci
          go_wp2_with fail
          go_region
          go_wp2
          go_roundw
          case rel => exact ⟨c + 1, by omega, by go_num, (HBB.out.other (by omega)).dr, (HRR.out.other (by omega)).dr, HSET.out.dr, grownBy_d1 (grownBy_old HGG.out (grownBy_setCell _ _ _ _) (by omega))⟩
          case measure => simp [intOf]; omega
        · obtain rfl : c = 4 := by omega
          clear hcell hfree
          go_wp2_with fail
          go_roundw
          case rel => exact ⟨r + 1, by omega, by go_num, HBB.out, HRR.out, HSS.out, HGG.out⟩
          case measure => simp [intOf]; omega
    · obtain rfl : r = 4 := by omega
      have hs := HSS.out
      rw [sh1_end hl] at hs
      have HS2 := Lib.hid hs
      clear hs HSS
      go_wp2_with (first | (refine wpList_load_row rfl 33 _ rfl (w.heap.size + 1 + 1) rfl 33 (cellsB (shL l)) (0, 0) _ HS2.out Try.underlying33 rfl (by rw [size_state, cellsB_size, shL_len hl]) ?_) | (refine wpList_store_row rfl 33 _ _ rfl (w.heap.size + 1) (cellsB (shL l)) rfl rfl 33 _ HRR.out (by rw [size_state, cellsB_size, shL_len hl]) (by rw [cellsB_size, cellsB_size, shL_len hl]; rfl) (cellsB_one _) ?_))
      refine bodyPost_ret (v := .agg (cellsB (shL l))) (results_cell_row rfl _ _ (w.heap.size + 1) 33 (cellsB (shL l)) (0, 0) _ rfl (setRow_heap _ _ _ _ _ _ HRR.out) Try.underlying33 rfl (by rw [size_state, cellsB_size, shL_len hl])) rfl ⟨rfl, ?_⟩
      exact grownBy_old HGG.out (grownBy_setRow _ _ _) (by omega)

set_option maxRecDepth 100000 in
set_option maxHeartbeats 1000000 in
theorem shifted3_n (l : List UInt8) (hl : l.length = 16) (w : World) : Calls Try.prog 57 #[aggB l, .int .i64 3] w fun e w' => e = .returned (aggB (unshL l)) ∧ w.grownBy w' none := by
  unfold aggB
  obtain ⟨hb, hr, hs, hg⟩ := three w l z16 z16 33 33 33
  have HR := Lib.hid hr
  have HS := Lib.hid hs
  have HG := Lib.hid hg
  have HB := Lib.hid hb
  clear hr hg hs hb
  go_enter Try.func57, Try.ntmps57
  go_wp2_with fail
  go_loopw [8] (fun vi wr => ∃ k : Nat, k ≤ 4 ∧ vi = .int .i64 k ∧ Blk wr w.heap.size 33 l ∧ Blk wr (w.heap.size + 1) 33 z16 ∧ Blk wr (w.heap.size + 1 + 1) 33 (iter2 (shF 3 l) z16 k) ∧ w.grownBy wr none) (fun vi _ => 4 - (intOf vi).toNat)
  case atStart => exact ⟨0, by omega, rfl, HB.out, HR.out, HS.out, HG.out⟩
  case round =>
    obtain ⟨r, hk, rfl, hb, hr, hs, hg⟩ := hrel
    have HBB := Lib.hid hb
    have HRR := Lib.hid hr
    have HGG := Lib.hid hg
    have HSS := Lib.hid hs
    clear hr hg hs hb
    by_cases hlt : r < 4
    · go_wp2_with fail
      go_loopw [11] (fun vi wr => ∃ k : Nat, k ≤ 4 ∧ vi = .int .i64 k ∧ Blk wr w.heap.size 33 l ∧ Blk wr (w.heap.size + 1) 33 z16 ∧ Blk wr (w.heap.size + 1 + 1) 33 (iterU (shF 3 l r) (iter2 (shF 3 l) z16 r) k) ∧ w.grownBy wr none) (fun vi _ => 4 - (intOf vi).toNat)
      case atStart => exact ⟨0, by omega, rfl, HBB.out, HRR.out, HSS.out, HGG.out⟩
      case round =>
        clear HBB HRR HGG HSS
        obtain ⟨c, hk, rfl, hb, hr, hs, hg⟩ := hrel
        have HBB := Lib.hid hb
        have HRR := Lib.hid hr
        have HGG := Lib.hid hg
        have hlen : (iterU (shF 3 l r) (iter2 (shF 3 l) z16 r) c).length = 16 := (iterU_len (shF_len 3 l r) c).trans (iter2_len (shF_len 3 l) r)
        have hcell := hs.cell 16 hlen
        have hfree := hs.free
        have HSS := Lib.hid hs
        clear hr hg hs hlen hb
        by_cases hlc : c < 4
        · have hci := HBB.out.cell 16 hl (r * 4 + (c + 3 * r) % 4) (by omega)
          have hj : r * 4 + c < 16 := by omega
          have hcj := hcell _ hj
          obtain ⟨u0, hu0⟩ : ∃ u0, wr.cell? ⟨w.heap.size + 1 + 1, r * 4 + c, none⟩ = some u0 := ⟨_, hcj⟩
          have hset := HSS.out.set (r * 4 + c) (l.getD (r * 4 + (c + 3 * r) % 4) 0)
          have he : iterU (shF 3 l r) (iter2 (shF 3 l) z16 r) (c + 1) = (iterU (shF 3 l r) (iter2 (shF 3 l) z16 r) c).set (r * 4 + c) (l.getD (r * 4 + (c + 3 * r) % 4) 0) := rfl
          obtain ⟨x, hx⟩ : ∃ x, x = l.getD (r * 4 + (c + 3 * r) % 4) 0 := ⟨_, rfl⟩
          rw [← hx] at hset hci he
          rw [← he] at hset
          have HSET := Lib.hid hset
          clear hset HSS hcell hcj hj hx he
          skip
          go_wp2_with fail
          go_region
          go_wp2
          go_roundw
          case rel => exact ⟨c + 1, by omega, by go_num, (HBB.out.other (by omega)).dr, (HRR.out.other (by omega)).dr, HSET.out.dr, grownBy_d1 (grownBy_old HGG.out (grownBy_setCell _ _ _ _) (by omega))⟩
          case measure => simp [intOf]; omega
        · obtain rfl : c = 4 := by omega
          clear hcell hfree
          go_wp2_with fail
          go_roundw
          case rel => exact ⟨r + 1, by omega, by go_num, HBB.out, HRR.out, HSS.out, HGG.out⟩
          case measure => simp [intOf]; omega
    · obtain rfl : r = 4 := by omega
      have hs := HSS.out
      rw [sh3_end hl] at hs
      have HS2 := Lib.hid hs
      clear hs HSS
      go_wp2_with (first | (refine wpList_load_row rfl 33 _ rfl (w.heap.size + 1 + 1) rfl 33 (cellsB (unshL l)) (0, 0) _ HS2.out Try.underlying33 rfl (by rw [size_state, cellsB_size, unshL_len hl]) ?_) | (refine wpList_store_row rfl 33 _ _ rfl (w.heap.size + 1) (cellsB (unshL l)) rfl rfl 33 _ HRR.out (by rw [size_state, cellsB_size, unshL_len hl]) (by rw [cellsB_size, cellsB_size, unshL_len hl]; rfl) (cellsB_one _) ?_))
      refine bodyPost_ret (v := .agg (cellsB (unshL l))) (results_cell_row rfl _ _ (w.heap.size + 1) 33 (cellsB (unshL l)) (0, 0) _ rfl (setRow_heap _ _ _ _ _ _ HRR.out) Try.underlying33 rfl (by rw [size_state, cellsB_size, unshL_len hl])) rfl ⟨rfl, ?_⟩
      exact grownBy_old HGG.out (grownBy_setRow _ _ _) (by omega)

set_option maxRecDepth 100000 in
set_option maxHeartbeats 1000000 in
theorem shift_n (l : List UInt8) (hl : l.length = 16) (w : World) : Calls Try.prog 32 #[aggB l] w fun e w' => e = .returned (aggB (shL l)) ∧ w.grownBy w' none := by
  unfold aggB
  obtain ⟨hb, hr, hg⟩ := two w l z16 33 33
  have HR := Lib.hid hr
  have HG := Lib.hid hg
  have HB := Lib.hid hb
  clear hr hg hb
  go_enter Try.func32, Try.ntmps32
  go_wp2_with (refine wpList_load_row rfl 33 _ rfl w.heap.size rfl 33 (cellsB l) (0, 0) _ HB.out Try.underlying33 rfl (by rw [size_state, cellsB_size, hl]) ?_)
  refine (shifted1_n l hl _).mono ?_
  rintro e w' ⟨rfl, hg⟩
  have hr := HR.out.grown hg (by simp)
  have HRR := Lib.hid hr
  have HGG := Lib.hid (grownBy_trans HG.out hg)
  clear hr hg
  unfold aggB
  go_wp2_with (refine wpList_store_row rfl 33 _ _ rfl (w.heap.size + 1) (cellsB (shL l)) rfl rfl 33 _ HRR.out (by rw [size_state, cellsB_size, shL_len hl]) (by rw [cellsB_size, cellsB_size, shL_len hl]; rfl) (cellsB_one _) ?_)
  refine bodyPost_ret (v := .agg (cellsB (shL l))) (results_cell_row rfl _ _ (w.heap.size + 1) 33 (cellsB (shL l)) (0, 0) _ rfl (setRow_heap _ _ _ _ _ _ HRR.out) Try.underlying33 rfl (by rw [size_state, cellsB_size, shL_len hl])) rfl ⟨rfl, ?_⟩
  exact grownBy_old HGG.out (grownBy_setRow _ _ _) (by omega)

set_option maxRecDepth 100000 in
set_option maxHeartbeats 1000000 in
theorem unshift_n (l : List UInt8) (hl : l.length = 16) (w : World) : Calls Try.prog 34 #[aggB l] w fun e w' => e = .returned (aggB (unshL l)) ∧ w.grownBy w' none := by
  unfold aggB
  obtain ⟨hb, hr, hg⟩ := two w l z16 33 33
  have HR := Lib.hid hr
  have HG := Lib.hid hg
  have HB := Lib.hid hb
  clear hr hg hb
  go_enter Try.func34, Try.ntmps34
  go_wp2_with (refine wpList_load_row rfl 33 _ rfl w.heap.size rfl 33 (cellsB l) (0, 0) _ HB.out Try.underlying33 rfl (by rw [size_state, cellsB_size, hl]) ?_)
  refine (shifted3_n l hl _).mono ?_
  rintro e w' ⟨rfl, hg⟩
  have hr := HR.out.grown hg (by simp)
  have HRR := Lib.hid hr
  have HGG := Lib.hid (grownBy_trans HG.out hg)
  clear hr hg
  unfold aggB
  go_wp2_with (refine wpList_store_row rfl 33 _ _ rfl (w.heap.size + 1) (cellsB (unshL l)) rfl rfl 33 _ HRR.out (by rw [size_state, cellsB_size, unshL_len hl]) (by rw [cellsB_size, cellsB_size, unshL_len hl]; rfl) (cellsB_one _) ?_)
  refine bodyPost_ret (v := .agg (cellsB (unshL l))) (results_cell_row rfl _ _ (w.heap.size + 1) 33 (cellsB (unshL l)) (0, 0) _ rfl (setRow_heap _ _ _ _ _ _ HRR.out) Try.underlying33 rfl (by rw [size_state, cellsB_size, unshL_len hl])) rfl ⟨rfl, ?_⟩
  exact grownBy_old HGG.out (grownBy_setRow _ _ _) (by omega)

set_option maxRecDepth 100000 in
set_option maxHeartbeats 1000000 in
theorem refShift_n (l : List UInt8) (hl : l.length = 16) (w : World) : Calls Try.prog 33 #[aggB l] w fun e w' => e = .returned (aggB (shL l)) ∧ w.grownBy w' none := by
  unfold aggB
  obtain ⟨hb, hr, hs, hg⟩ := three w l z16 z16 33 33 33
  have HR := Lib.hid hr
  have HS := Lib.hid hs
  have HG := Lib.hid hg
  have HB := Lib.hid hb
  clear hr hg hs hb
  go_enter Try.func33, Try.ntmps33
  go_wp2_with fail
  go_loopw [4] (fun vi wr => ∃ k : Nat, k ≤ 16 ∧ vi = .int .i64 k ∧ Blk wr w.heap.size 33 l ∧ Blk wr (w.heap.size + 1) 33 z16 ∧ Blk wr (w.heap.size + 1 + 1) 33 (iterU (rshF l) z16 k) ∧ w.grownBy wr none) (fun vi _ => 16 - (intOf vi).toNat)
  case atStart => exact ⟨0, by omega, rfl, HB.out, HR.out, HS.out, HG.out⟩
  case round =>
    obtain ⟨k, hk, rfl, hb, hr, hs, hg⟩ := hrel
    have HBB := Lib.hid hb
    have HRR := Lib.hid hr
    have HGG := Lib.hid hg
    have hlen : (iterU (rshF l) z16 k).length = 16 := iterU_len (rshF_len l) k
    have hcell := hs.cell 16 hlen
    have hfree := hs.free
    have HSS := Lib.hid hs
    clear hr hg hs hlen hb
    by_cases hlt : k < 16
    · have hci := HBB.out.cell 16 hl (k % 4 * 4 + (k / 4 + k) % 4) (by omega)
      have hj : k % 4 * 4 + k / 4 < 16 := by omega
      have hcj := hcell _ hj
      obtain ⟨u0, hu0⟩ : ∃ u0, wr.cell? ⟨w.heap.size + 1 + 1, k % 4 * 4 + k / 4, none⟩ = some u0 := ⟨_, hcj⟩
      have hset := HSS.out.set (k % 4 * 4 + k / 4) (l.getD (k % 4 * 4 + (k / 4 + k) % 4) 0)
      have he : iterU (rshF l) z16 (k + 1) = (iterU (rshF l) z16 k).set (k % 4 * 4 + k / 4) (l.getD (k % 4 * 4 + (k / 4 + k) % 4) 0) := rfl
      obtain ⟨x, hx⟩ : ∃ x, x = l.getD (k % 4 * 4 + (k / 4 + k) % 4) 0 := ⟨_, rfl⟩
      rw [← hx] at hset hci he
      rw [← he] at hset
      have HSET := Lib.hid hset
      clear hset HSS hcell hcj hj hx he
      go_wp2_with fail
      go_region
      go_wp2
      go_roundw
      case rel => exact ⟨k + 1, by omega, by go_num, (HBB.out.other (by omega)).dr, (HRR.out.other (by omega)).dr, HSET.out.dr, grownBy_d1 (grownBy_old HGG.out (grownBy_setCell _ _ _ _) (by omega))⟩
      case measure => simp [intOf]; omega
    · obtain rfl : k = 16 := by omega
      clear hcell hfree
      have hs := HSS.out
      rw [rsh_end hl] at hs
      have HS2 := Lib.hid hs
      clear hs HSS
      go_wp2_with (first | (refine wpList_load_row rfl 33 _ rfl (w.heap.size + 1 + 1) rfl 33 (cellsB (shL l)) (0, 0) _ HS2.out Try.underlying33 rfl (by rw [size_state, cellsB_size, shL_len hl]) ?_) | (refine wpList_store_row rfl 33 _ _ rfl (w.heap.size + 1) (cellsB (shL l)) rfl rfl 33 _ HRR.out (by rw [size_state, cellsB_size, shL_len hl]) (by rw [cellsB_size, cellsB_size, shL_len hl]; rfl) (cellsB_one _) ?_))
      refine bodyPost_ret (v := .agg (cellsB (shL l))) (results_cell_row rfl _ _ (w.heap.size + 1) 33 (cellsB (shL l)) (0, 0) _ rfl (setRow_heap _ _ _ _ _ _ HRR.out) Try.underlying33 rfl (by rw [size_state, cellsB_size, shL_len hl])) rfl ⟨rfl, ?_⟩
      exact grownBy_old HGG.out (grownBy_setRow _ _ _) (by omega)

set_option maxRecDepth 100000 in
set_option maxHeartbeats 1000000 in
theorem refUnshift_n (l : List UInt8) (hl : l.length = 16) (w : World) : Calls Try.prog 35 #[aggB l] w fun e w' => e = .returned (aggB (unshL l)) ∧ w.grownBy w' none := by
  unfold aggB
  obtain ⟨hb, hr, hs, hg⟩ := three w l z16 z16 33 33 33
  have HR := Lib.hid hr
  have HS := Lib.hid hs
  have HG := Lib.hid hg
  have HB := Lib.hid hb
  clear hr hg hs hb
  go_enter Try.func35, Try.ntmps35
  go_wp2_with fail
  go_loopw [4] (fun vi wr => ∃ k : Nat, k ≤ 16 ∧ vi = .int .i64 k ∧ Blk wr w.heap.size 33 l ∧ Blk wr (w.heap.size + 1) 33 z16 ∧ Blk wr (w.heap.size + 1 + 1) 33 (iterU (runF l) z16 k) ∧ w.grownBy wr none) (fun vi _ => 16 - (intOf vi).toNat)
  case atStart => exact ⟨0, by omega, rfl, HB.out, HR.out, HS.out, HG.out⟩
  case round =>
    obtain ⟨k, hk, rfl, hb, hr, hs, hg⟩ := hrel
    have HBB := Lib.hid hb
    have HRR := Lib.hid hr
    have HGG := Lib.hid hg
    have hlen : (iterU (runF l) z16 k).length = 16 := iterU_len (runF_len l) k
    have hcell := hs.cell 16 hlen
    have hfree := hs.free
    have HSS := Lib.hid hs
    clear hr hg hs hlen hb
    by_cases hlt : k < 16
    · have hci := HBB.out.cell 16 hl (k % 4 * 4 + k / 4) (by omega)
      have hj : k % 4 * 4 + (k / 4 + k) % 4 < 16 := by omega
      have hcj := hcell _ hj
      obtain ⟨u0, hu0⟩ : ∃ u0, wr.cell? ⟨w.heap.size + 1 + 1, k % 4 * 4 + (k / 4 + k) % 4, none⟩ = some u0 := ⟨_, hcj⟩
      have hset := HSS.out.set (k % 4 * 4 + (k / 4 + k) % 4) (l.getD (k % 4 * 4 + k / 4) 0)
      have he : iterU (runF l) z16 (k + 1) = (iterU (runF l) z16 k).set (k % 4 * 4 + (k / 4 + k) % 4) (l.getD (k % 4 * 4 + k / 4) 0) := rfl
      obtain ⟨x, hx⟩ : ∃ x, x = l.getD (k % 4 * 4 + k / 4) 0 := ⟨_, rfl⟩
      rw [← hx] at hset hci he
      rw [← he] at hset
      have HSET := Lib.hid hset
      clear hset HSS hcell hcj hj hx he
      go_wp2_with fail
      go_region
      go_wp2
      go_roundw
      case rel => exact ⟨k + 1, by omega, by go_num, (HBB.out.other (by omega)).dr, (HRR.out.other (by omega)).dr, HSET.out.dr, grownBy_d1 (grownBy_old HGG.out (grownBy_setCell _ _ _ _) (by omega))⟩
      case measure => simp [intOf]; omega
    · obtain rfl : k = 16 := by omega
      clear hcell hfree
      have hs := HSS.out
      rw [run_end hl] at hs
      have HS2 := Lib.hid hs
      clear hs HSS
      go_wp2_with (first | (refine wpList_load_row rfl 33 _ rfl (w.heap.size + 1 + 1) rfl 33 (cellsB (unshL l)) (0, 0) _ HS2.out Try.underlying33 rfl (by rw [size_state, cellsB_size, unshL_len hl]) ?_) | (refine wpList_store_row rfl 33 _ _ rfl (w.heap.size + 1) (cellsB (unshL l)) rfl rfl 33 _ HRR.out (by rw [size_state, cellsB_size, unshL_len hl]) (by rw [cellsB_size, cellsB_size, unshL_len hl]; rfl) (cellsB_one _) ?_))
      refine bodyPost_ret (v := .agg (cellsB (unshL l))) (results_cell_row rfl _ _ (w.heap.size + 1) 33 (cellsB (unshL l)) (0, 0) _ rfl (setRow_heap _ _ _ _ _ _ HRR.out) Try.underlying33 rfl (by rw [size_state, cellsB_size, unshL_len hl])) rfl ⟨rfl, ?_⟩
      exact grownBy_old HGG.out (grownBy_setRow _ _ _) (by omega)

end Go.Proofs.Ytlnmglddialhjaa
