/- aes: the document's mixed, Mix, Unmix. -/
import Derived.Test.YtlnmglddialhjaaAesMix
namespace Go.Proofs.Ytlnmglddialhjaa
open Go.RowKit

set_option maxRecDepth 100000 in
set_option maxHeartbeats 2000000 in
theorem refMixed_n (f l : List UInt8) (hf : f.length = 4) (hl : l.length = 16) (w : World) : Calls Try.prog 59 #[aggB l, aggB f] w fun e w' => e = .returned (aggB (mixL f l)) ∧ w.grownBy w' none := by
  unfold aggB
  obtain ⟨hb, hf1, hr, hs, hg⟩ := four w l f z16 z16 33 31 33 33
  have HR := Lib.hid hr
  have HS := Lib.hid hs
  have HG := Lib.hid hg
  have HB := Lib.hid hb
  have HF := Lib.hid hf1
  clear hr hg hs hb hf1
  go_enter Try.func59, Try.ntmps59
  go_wp2_with fail
  go_loopw [6] (fun vi wr => ∃ k : Nat, k ≤ 4 ∧ vi = .int .i64 k ∧ Blk wr w.heap.size 33 l ∧ Blk wr (w.heap.size + 1) 31 f ∧ Blk wr (w.heap.size + 1 + 1) 33 z16 ∧ Blk wr (w.heap.size + 1 + 1 + 1) 33 (iter2 (rmF f l) z16 k) ∧ w.grownBy wr none) (fun vi _ => 4 - (intOf vi).toNat)
  case atStart => exact ⟨0, by omega, rfl, HB.out, HF.out, HR.out, HS.out, HG.out⟩
  case round =>
    obtain ⟨c, hk, rfl, hb, hf1, hr, hs, hg⟩ := hrel
    have HBB := Lib.hid hb
    have HFF := Lib.hid hf1
    have HRR := Lib.hid hr
    have HGG := Lib.hid hg
    have HSS := Lib.hid hs
    clear hr hg hs hb hf1
    by_cases hlc : c < 4
    · have hc4 : decide ((c : Int) < 4) = true := by simp; omega
      go_wp2_with fail
      go_loopw [7] (fun vi wr => ∃ k : Nat, k ≤ 4 ∧ vi = .int .i64 k ∧ Blk wr w.heap.size 33 l ∧ Blk wr (w.heap.size + 1) 31 f ∧ Blk wr (w.heap.size + 1 + 1) 33 z16 ∧ Blk wr (w.heap.size + 1 + 1 + 1) 33 (iterU (rmF f l c) (iter2 (rmF f l) z16 c) k) ∧ w.grownBy wr none) (fun vi _ => 4 - (intOf vi).toNat)
      case atStart => exact ⟨0, by omega, rfl, HBB.out, HFF.out, HRR.out, HSS.out, HGG.out⟩
      case round =>
        clear HBB HFF HRR HGG HSS
        obtain ⟨r, hkr, rfl, hb, hf1, hr, hs, hg⟩ := hrel
        have HBB := Lib.hid hb
        have HFF := Lib.hid hf1
        have HRR := Lib.hid hr
        have HGG := Lib.hid hg
        have HSS := Lib.hid hs
        clear hr hg hs hb hf1
        by_cases hlr : r < 4
        · have hr4 : decide ((r : Int) < 4) = true := by simp; omega
          go_wp2_with fail
          go_loopw [8, 9] (fun vx vi wr => ∃ k : Nat, k ≤ 4 ∧ vi = .int .i64 k ∧ vx = .int .u8 ((xF f l c r k).toNat : Int) ∧ Blk wr w.heap.size 33 l ∧ Blk wr (w.heap.size + 1) 31 f ∧ Blk wr (w.heap.size + 1 + 1) 33 z16 ∧ Blk wr (w.heap.size + 1 + 1 + 1) 33 (iterU (rmF f l c) (iter2 (rmF f l) z16 c) r) ∧ w.grownBy wr none) (fun _ vi _ => 4 - (intOf vi).toNat)
          case atStart => exact ⟨0, by omega, rfl, rfl, HBB.out, HFF.out, HRR.out, HSS.out, HGG.out⟩
          case round =>
            clear HBB HFF HRR HGG HSS
            obtain ⟨k, hkk, rfl, rfl, hb, hf1, hr, hs, hg⟩ := hrel
            have HBB := Lib.hid hb
            have HFF := Lib.hid hf1
            have HRR := Lib.hid hr
            have HGG := Lib.hid hg
            have hlen : (iterU (rmF f l c) (iter2 (rmF f l) z16 c) r).length = 16 := (iterU_len (rmF_len f l c) r).trans (iter2_len (rmF_len f l) c)
            have hcell := hs.cell 16 hlen
            have hfree := hs.free
            have HSS := Lib.hid hs
            clear hr hg hs hlen hb hf1
            by_cases hlk : k < 4
            · have hci := HBB.out.cell 16 hl (k * 4 + c) (by omega)
              obtain ⟨q, hq⟩ : ∃ q, q = (k + 4 - r) % 4 := ⟨_, rfl⟩
              have hq4 : q < 4 := by omega
              have hcf := HFF.out.cell 4 hf q hq4
              have f1 : IntKind.i64.wrap ((k : Int) - (r : Int)) = (k : Int) - (r : Int) := IntWalk.i64_in _ (by omega)
              have f2 : IntKind.i64.wrap ((k : Int) - (r : Int) + 4) = (k : Int) - (r : Int) + 4 := IntWalk.i64_in _ (by omega)
              have f3 : ((k : Int) - (r : Int) + 4).tmod 4 = (q : Int) := by rw [Int.tmod_eq_emod_of_nonneg (by omega)]; omega
              have f4 : (q : Int) < 4 := by omega
              have r4 : (r : Int) < 4 := by omega
              have c4 : (c : Int) < 4 := by omega
              have k4 : (k : Int) < 4 := by omega
              have he : xF f l c r (k + 1) = xF f l c r k ^^^ am (f.getD q 0) (l.getD (k * 4 + c) 0) := by rw [hq]; rfl
              obtain ⟨x, hx⟩ : ∃ x, x = l.getD (k * 4 + c) 0 := ⟨_, rfl⟩
              obtain ⟨y, hy⟩ : ∃ y, y = f.getD q 0 := ⟨_, rfl⟩
              obtain ⟨z, hz⟩ : ∃ z, z = xF f l c r k := ⟨_, rfl⟩
              rw [← hx, ← hy, ← hz] at he
              rw [← hx] at hci
              rw [← hy] at hcf
              rw [← hz]
              have hxz := xor_u8 z (am y x)
              rw [← he] at hxz
              have HQ := Lib.hid hq
              have HZ := Lib.hid hz
              clear hcell hx he hy hz hq hq4 hfree
              go_wp2_with fail
              go_region_law (first | (go_simp; go_at_call 15; refine (refProd_i _ _ y x _ rfl rfl).mono ?_; rintro e w' ⟨rfl, rfl⟩))
              all_goals trace "WAY"
              all_goals
                go_wp2
                go_roundw
                case rel => exact ⟨k + 1, by omega, by go_num, rfl, HBB.out.dr, HFF.out.dr, HRR.out.dr, HSS.out.dr, grownBy_d1 HGG.out⟩
                case measure => simp [intOf]; omega
            · obtain rfl : k = 4 := by omega
              have hj : r * 4 + c < 16 := by omega
              have hcj := hcell _ hj
              have hset := HSS.out.set (r * 4 + c) (xF f l c r 4)
              have he : iterU (rmF f l c) (iter2 (rmF f l) z16 c) (r + 1) = (iterU (rmF f l c) (iter2 (rmF f l) z16 c) r).set (r * 4 + c) (xF f l c r 4) := rfl
              obtain ⟨x, hx⟩ : ∃ x, x = xF f l c r 4 := ⟨_, rfl⟩
              obtain ⟨u0, hu0⟩ : ∃ u0, wr.cell? ⟨w.heap.size + 1 + 1 + 1, r * 4 + c, none⟩ = some u0 := ⟨_, hcj⟩
              rw [← hx] at hset he
              rw [← hx]
              rw [← he] at hset
              have HSET := Lib.hid hset
              clear hset he hx hcj hcell hj HSS
              go_wp2_with fail
              go_roundw
              case rel => exact ⟨r + 1, by omega, by go_num, HBB.out.other (by omega), HFF.out.other (by omega), HRR.out.other (by omega), HSET.out, grownBy_old HGG.out (grownBy_setCell _ _ _ _) (by omega)⟩
              case measure => simp [intOf]; omega
        · obtain rfl : r = 4 := by omega
          go_wp2_with fail
          go_roundw
          case rel => exact ⟨c + 1, by omega, by go_num, HBB.out, HFF.out, HRR.out, HSS.out, HGG.out⟩
          case measure => simp [intOf]; omega
    · obtain rfl : c = 4 := by omega
      have hs := HSS.out
      rw [rm_end hf hl] at hs
      have HS2 := Lib.hid hs
      clear hs HSS
      go_wp2_with (first | (refine wpList_load_row rfl 33 _ rfl (w.heap.size + 1 + 1 + 1) rfl 33 (cellsB (mixL f l)) (0, 0) _ HS2.out Try.underlying33 rfl (by rw [size_state, cellsB_size, mixL_len hf hl]) ?_) | (refine wpList_store_row rfl 33 _ _ rfl (w.heap.size + 1 + 1) (cellsB (mixL f l)) rfl rfl 33 _ HRR.out (by rw [size_state, cellsB_size, mixL_len hf hl]) (by rw [cellsB_size, cellsB_size, mixL_len hf hl]; rfl) (cellsB_one _) ?_))
      refine bodyPost_ret (v := .agg (cellsB (mixL f l))) (results_cell_row rfl _ _ (w.heap.size + 1 + 1) 33 (cellsB (mixL f l)) (0, 0) _ rfl (setRow_heap _ _ _ _ _ _ HRR.out) Try.underlying33 rfl (by rw [size_state, cellsB_size, mixL_len hf hl])) rfl ⟨rfl, ?_⟩
      exact grownBy_old HGG.out (grownBy_setRow _ _ _) (by omega)

set_option maxRecDepth 100000 in
set_option maxHeartbeats 1000000 in
theorem refMix_n (l : List UInt8) (hl : l.length = 16) (w : World) : Calls Try.prog 37 #[aggB l] w fun e w' => e = .returned (aggB (mixL [2, 3, 1, 1] l)) ∧ w.grownBy w' none := by
  have hm := mixL_len (f := [2, 3, 1, 1]) rfl hl
  unfold aggB
  obtain ⟨hb, hr, hg⟩ := two w l z16 33 33
  have HR := Lib.hid hr
  have HG := Lib.hid hg
  have HB := Lib.hid hb
  clear hr hg hb
  go_enter Try.func37, Try.ntmps37
  go_wp2_with (refine wpList_load_row rfl 33 _ rfl w.heap.size rfl 33 (cellsB l) (0, 0) _ HB.out Try.underlying33 rfl (by rw [size_state, cellsB_size, hl]) ?_)
  refine (refMixed_n [2, 3, 1, 1] l rfl hl _).mono ?_
  rintro e w' ⟨rfl, hg⟩
  have hr := HR.out.grown hg (by simp)
  have HRR := Lib.hid hr
  have HGG := Lib.hid (grownBy_trans HG.out hg)
  clear hr hg
  unfold aggB
  go_wp2_with (refine wpList_store_row rfl 33 _ _ rfl (w.heap.size + 1) (cellsB (mixL [2, 3, 1, 1] l)) rfl rfl 33 _ HRR.out (by rw [size_state, cellsB_size, hm]) (by rw [cellsB_size, cellsB_size, hm]; rfl) (cellsB_one _) ?_)
  refine bodyPost_ret (v := .agg (cellsB (mixL [2, 3, 1, 1] l))) (results_cell_row rfl _ _ (w.heap.size + 1) 33 (cellsB (mixL [2, 3, 1, 1] l)) (0, 0) _ rfl (setRow_heap _ _ _ _ _ _ HRR.out) Try.underlying33 rfl (by rw [size_state, cellsB_size, hm])) rfl ⟨rfl, ?_⟩
  exact grownBy_old HGG.out (grownBy_setRow _ _ _) (by omega)

set_option maxRecDepth 100000 in
set_option maxHeartbeats 1000000 in
theorem refUnmix_n (l : List UInt8) (hl : l.length = 16) (w : World) : Calls Try.prog 39 #[aggB l] w fun e w' => e = .returned (aggB (mixL [14, 11, 13, 9] l)) ∧ w.grownBy w' none := by
  have hm := mixL_len (f := [14, 11, 13, 9]) rfl hl
  unfold aggB
  obtain ⟨hb, hr, hg⟩ := two w l z16 33 33
  have HR := Lib.hid hr
  have HG := Lib.hid hg
  have HB := Lib.hid hb
  clear hr hg hb
  go_enter Try.func39, Try.ntmps39
  go_wp2_with (refine wpList_load_row rfl 33 _ rfl w.heap.size rfl 33 (cellsB l) (0, 0) _ HB.out Try.underlying33 rfl (by rw [size_state, cellsB_size, hl]) ?_)
  refine (refMixed_n [14, 11, 13, 9] l rfl hl _).mono ?_
  rintro e w' ⟨rfl, hg⟩
  have hr := HR.out.grown hg (by simp)
  have HRR := Lib.hid hr
  have HGG := Lib.hid (grownBy_trans HG.out hg)
  clear hr hg
  unfold aggB
  go_wp2_with (refine wpList_store_row rfl 33 _ _ rfl (w.heap.size + 1) (cellsB (mixL [14, 11, 13, 9] l)) rfl rfl 33 _ HRR.out (by rw [size_state, cellsB_size, hm]) (by rw [cellsB_size, cellsB_size, hm]; rfl) (cellsB_one _) ?_)
  refine bodyPost_ret (v := .agg (cellsB (mixL [14, 11, 13, 9] l))) (results_cell_row rfl _ _ (w.heap.size + 1) 33 (cellsB (mixL [14, 11, 13, 9] l)) (0, 0) _ rfl (setRow_heap _ _ _ _ _ _ HRR.out) Try.underlying33 rfl (by rw [size_state, cellsB_size, hm])) rfl ⟨rfl, ?_⟩
  exact grownBy_old HGG.out (grownBy_setRow _ _ _) (by omega)

end Go.Proofs.Ytlnmglddialhjaa
