/- aes: mixed, Mix, Unmix; the document's. -/
import Derived.Test.YtlnmglddialhjaaAesShift
import Derived.Deep.RegionLaw
namespace Go.Proofs.Ytlnmglddialhjaa
open Go.RowKit

theorem ex4 {l : List UInt8} (h : l.length = 4) : ∃ f0 f1 f2 f3, l = [f0, f1, f2, f3] := by
  match l, h with
  | [f0, f1, f2, f3], _ => exact ⟨f0, f1, f2, f3, rfl⟩
def mixL : List UInt8 → List UInt8 → List UInt8
  | [f0, f1, f2, f3], [x0, x1, x2, x3, x4, x5, x6, x7, x8, x9, x10, x11, x12, x13, x14, x15] => [am f0 x0 ^^^ am f1 x4 ^^^ am f2 x8 ^^^ am f3 x12, am f0 x1 ^^^ am f1 x5 ^^^ am f2 x9 ^^^ am f3 x13, am f0 x2 ^^^ am f1 x6 ^^^ am f2 x10 ^^^ am f3 x14, am f0 x3 ^^^ am f1 x7 ^^^ am f2 x11 ^^^ am f3 x15, am f3 x0 ^^^ am f0 x4 ^^^ am f1 x8 ^^^ am f2 x12, am f3 x1 ^^^ am f0 x5 ^^^ am f1 x9 ^^^ am f2 x13, am f3 x2 ^^^ am f0 x6 ^^^ am f1 x10 ^^^ am f2 x14, am f3 x3 ^^^ am f0 x7 ^^^ am f1 x11 ^^^ am f2 x15, am f2 x0 ^^^ am f3 x4 ^^^ am f0 x8 ^^^ am f1 x12, am f2 x1 ^^^ am f3 x5 ^^^ am f0 x9 ^^^ am f1 x13, am f2 x2 ^^^ am f3 x6 ^^^ am f0 x10 ^^^ am f1 x14, am f2 x3 ^^^ am f3 x7 ^^^ am f0 x11 ^^^ am f1 x15, am f1 x0 ^^^ am f2 x4 ^^^ am f3 x8 ^^^ am f0 x12, am f1 x1 ^^^ am f2 x5 ^^^ am f3 x9 ^^^ am f0 x13, am f1 x2 ^^^ am f2 x6 ^^^ am f3 x10 ^^^ am f0 x14, am f1 x3 ^^^ am f2 x7 ^^^ am f3 x11 ^^^ am f0 x15]
  | _, _ => []
theorem mixL_len {f l : List UInt8} (hf : f.length = 4) (h : l.length = 16) : (mixL f l).length = 16 := by
  obtain ⟨f0, f1, f2, f3, rfl⟩ := ex4 hf
  obtain ⟨x0, x1, x2, x3, x4, x5, x6, x7, x8, x9, x10, x11, x12, x13, x14, x15, rfl⟩ := ex16 h
  rfl
def mxF (f l : List UInt8) (c r k : Nat) (o : List UInt8) : List UInt8 := o.set (r * 4 + c) (o.getD (r * 4 + c) 0 ^^^ am (f.getD ((k + 4 - r) % 4) 0) (l.getD (k * 4 + c) 0))
theorem mxF_len (f l : List UInt8) : ∀ c r k o, (mxF f l c r k o).length = o.length := fun c r k o => by simp [mxF]
def mx2 (f l : List UInt8) (c : Nat) (o : List UInt8) (r : Nat) : List UInt8 := iterU (fun r o => iterU (mxF f l c r) o 4) o r
theorem mx2_len (f l : List UInt8) (c : Nat) (o : List UInt8) (r : Nat) : (mx2 f l c o r).length = o.length := iterU_len (fun r o => iterU_len (mxF_len f l c r) 4) r
def mx3 (f l : List UInt8) (c : Nat) : List UInt8 := iterU (fun c o => mx2 f l c o 4) z16 c
theorem mx3_len (f l : List UInt8) (c : Nat) : (mx3 f l c).length = 16 := iterU_len (fun c o => mx2_len f l c o 4) c
set_option maxHeartbeats 1000000 in
theorem mx_end {f l : List UInt8} (hf : f.length = 4) (h : l.length = 16) : mx3 f l 4 = mixL f l := by
  obtain ⟨f0, f1, f2, f3, rfl⟩ := ex4 hf
  obtain ⟨x0, x1, x2, x3, x4, x5, x6, x7, x8, x9, x10, x11, x12, x13, x14, x15, rfl⟩ := ex16 h
  simp [mx3, mx2, iterU, mxF, z16, mixL]

def xF (f l : List UInt8) (c r : Nat) : Nat → UInt8
  | 0 => 0
  | k + 1 => xF f l c r k ^^^ am (f.getD ((k + 4 - r) % 4) 0) (l.getD (k * 4 + c) 0)
def rmF (f l : List UInt8) (c r : Nat) (o : List UInt8) : List UInt8 := o.set (r * 4 + c) (xF f l c r 4)
theorem rmF_len (f l : List UInt8) : ∀ c r o, (rmF f l c r o).length = o.length := fun c r o => by simp [rmF]
set_option maxHeartbeats 1000000 in
theorem rm_end {f l : List UInt8} (hf : f.length = 4) (h : l.length = 16) : iter2 (rmF f l) z16 4 = mixL f l := by
  obtain ⟨f0, f1, f2, f3, rfl⟩ := ex4 hf
  obtain ⟨x0, x1, x2, x3, x4, x5, x6, x7, x8, x9, x10, x11, x12, x13, x14, x15, rfl⟩ := ex16 h
  simp [iter2, iterU, rmF, xF, z16, mixL]

theorem size_four : (Try.prog.info? 31).map (·.size) = some 4 := by kernel_rfl
/-- four blocks, made in a row -/
theorem four (w : World) (c1 c2 c3 c4 : List UInt8) (t1 t2 t3 t4 : TypeId) :
    Blk ((((w.alloc (.cells (cellsB c1) t1)).alloc (.cells (cellsB c2) t2)).alloc (.cells (cellsB c3) t3)).alloc (.cells (cellsB c4) t4)) w.heap.size t1 c1 ∧
    Blk ((((w.alloc (.cells (cellsB c1) t1)).alloc (.cells (cellsB c2) t2)).alloc (.cells (cellsB c3) t3)).alloc (.cells (cellsB c4) t4)) (w.heap.size + 1) t2 c2 ∧
    Blk ((((w.alloc (.cells (cellsB c1) t1)).alloc (.cells (cellsB c2) t2)).alloc (.cells (cellsB c3) t3)).alloc (.cells (cellsB c4) t4)) (w.heap.size + 1 + 1) t3 c3 ∧
    Blk ((((w.alloc (.cells (cellsB c1) t1)).alloc (.cells (cellsB c2) t2)).alloc (.cells (cellsB c3) t3)).alloc (.cells (cellsB c4) t4)) (w.heap.size + 1 + 1 + 1) t4 c4 ∧
    w.grownBy ((((w.alloc (.cells (cellsB c1) t1)).alloc (.cells (cellsB c2) t2)).alloc (.cells (cellsB c3) t3)).alloc (.cells (cellsB c4) t4)) none := by
  obtain ⟨h1, h2, h3, g3⟩ := three w c1 c2 c3 t1 t2 t3
  have h4 := Blk.new (((w.alloc (.cells (cellsB c1) t1)).alloc (.cells (cellsB c2) t2)).alloc (.cells (cellsB c3) t3)) t4 c4
  have g4 := World.grownBy_alloc (((w.alloc (.cells (cellsB c1) t1)).alloc (.cells (cellsB c2) t2)).alloc (.cells (cellsB c3) t3)) (.cells (cellsB c4) t4) none
  rw [World.size_alloc, World.size_alloc, World.size_alloc] at h4
  exact ⟨h1.grown g4 (by simp), h2.grown g4 (by simp), h3.grown g4 (by simp), h4, grownBy_trans g3 g4⟩

set_option maxRecDepth 100000 in
set_option maxHeartbeats 2000000 in
theorem mixed_n (f l : List UInt8) (hf : f.length = 4) (hl : l.length = 16) (w : World) : Calls Try.prog 58 #[aggB l, aggB f] w fun e w' => e = .returned (aggB (mixL f l)) ∧ w.grownBy w' none := by
  unfold aggB
  obtain ⟨hb, hf1, hr, hs, hg⟩ := four w l f z16 z16 33 31 33 33
  have HR := Lib.hid hr
  have HS := Lib.hid hs
  have HG := Lib.hid hg
  have HB := Lib.hid hb
  have HF := Lib.hid hf1
  clear hr hg hs hb hf1
  go_enter Try.func58, Try.ntmps58
  go_wp2_with fail
  go_loopw [9] (fun vi wr => ∃ k : Nat, k ≤ 4 ∧ vi = .int .i64 k ∧ Blk wr w.heap.size 33 l ∧ Blk wr (w.heap.size + 1) 31 f ∧ Blk wr (w.heap.size + 1 + 1) 33 z16 ∧ Blk wr (w.heap.size + 1 + 1 + 1) 33 (mx3 f l k) ∧ w.grownBy wr none) (fun vi _ => 4 - (intOf vi).toNat)
  case atStart => exact ⟨0, by omega, rfl, HB.out, HF.out, HR.out, HS.out, HG.out⟩
  case round =>
    obtain ⟨c, hk, rfl, hb, hf1, hr, hs, hg⟩ := hrel
    have HBB := Lib.hid hb
    have HFF := Lib.hid hf1
    have HRR := Lib.hid hr
    have HGG := Lib.hid hg
    have HSS := Lib.hid hs
    clear hr hg hs hb hf1
    by_cases hlc : c < 4
    · have hc4 : decide ((c : Int) < 4) = true := by simp; omega
      go_wp2_with fail
      go_loopw [12] (fun vi wr => ∃ k : Nat, k ≤ 4 ∧ vi = .int .i64 k ∧ Blk wr w.heap.size 33 l ∧ Blk wr (w.heap.size + 1) 31 f ∧ Blk wr (w.heap.size + 1 + 1) 33 z16 ∧ Blk wr (w.heap.size + 1 + 1 + 1) 33 (mx2 f l c (mx3 f l c) k) ∧ w.grownBy wr none) (fun vi _ => 4 - (intOf vi).toNat)
      case atStart => exact ⟨0, by omega, rfl, HBB.out, HFF.out, HRR.out, HSS.out, HGG.out⟩
      case round =>
        clear HBB HFF HRR HGG HSS
        obtain ⟨r, hkr, rfl, hb, hf1, hr, hs, hg⟩ := hrel
        have HBB := Lib.hid hb
        have HFF := Lib.hid hf1
        have HRR := Lib.hid hr
        have HGG := Lib.hid hg
        have HSS := Lib.hid hs
        clear hr hg hs hb hf1
        by_cases hlr : r < 4
        · have hr4 : decide ((r : Int) < 4) = true := by simp; omega
          go_wp2_with fail
          go_loopw [15] (fun vi wr => ∃ k : Nat, k ≤ 4 ∧ vi = .int .i64 k ∧ Blk wr w.heap.size 33 l ∧ Blk wr (w.heap.size + 1) 31 f ∧ Blk wr (w.heap.size + 1 + 1) 33 z16 ∧ Blk wr (w.heap.size + 1 + 1 + 1) 33 (iterU (mxF f l c r) (mx2 f l c (mx3 f l c) r) k) ∧ w.grownBy wr none) (fun vi _ => 4 - (intOf vi).toNat)
          case atStart => exact ⟨0, by omega, rfl, HBB.out, HFF.out, HRR.out, HSS.out, HGG.out⟩
          case round =>
            clear HBB HFF HRR HGG HSS
            obtain ⟨k, hkk, rfl, hb, hf1, hr, hs, hg⟩ := hrel
            have HBB := Lib.hid hb
            have HFF := Lib.hid hf1
            have HRR := Lib.hid hr
            have HGG := Lib.hid hg
            have hlen : (iterU (mxF f l c r) (mx2 f l c (mx3 f l c) r) k).length = 16 := (iterU_len (mxF_len f l c r) k).trans ((mx2_len f l c _ r).trans (mx3_len f l c))
            have hcell := hs.cell 16 hlen
            have hfree := hs.free
            have HSS := Lib.hid hs
            clear hr hg hs hlen hb hf1
            by_cases hlk : k < 4
            · have hci := HBB.out.cell 16 hl (k * 4 + c) (by omega)
              obtain ⟨q, hq⟩ : ∃ q, q = (k + 4 - r) % 4 := ⟨_, rfl⟩
              have hq4 : q < 4 := by omega
              have hcf := HFF.out.cell 4 hf q hq4
              have hj : r * 4 + c < 16 := by omega
              have hcj := hcell _ hj
              have f1 : IntKind.i64.wrap ((k : Int) - (r : Int)) = (k : Int) - (r : Int) := IntWalk.i64_in _ (by omega)
              have f2 : IntKind.i64.wrap ((k : Int) - (r : Int) + 4) = (k : Int) - (r : Int) + 4 := IntWalk.i64_in _ (by omega)
              have f3 : ((k : Int) - (r : Int) + 4).tmod 4 = (q : Int) := by rw [Int.tmod_eq_emod_of_nonneg (by omega)]; omega
              have f4 : (q : Int) < 4 := by omega
              have r4 : (r : Int) < 4 := by omega
              have c4 : (c : Int) < 4 := by omega
              have k4 : (k : Int) < 4 := by omega
              have hset := HSS.out.set (r * 4 + c) ((iterU (mxF f l c r) (mx2 f l c (mx3 f l c) r) k).getD (r * 4 + c) 0 ^^^ am (f.getD q 0) (l.getD (k * 4 + c) 0))
              have he : iterU (mxF f l c r) (mx2 f l c (mx3 f l c) r) (k + 1) = (iterU (mxF f l c r) (mx2 f l c (mx3 f l c) r) k).set (r * 4 + c) ((iterU (mxF f l c r) (mx2 f l c (mx3 f l c) r) k).getD (r * 4 + c) 0 ^^^ am (f.getD q 0) (l.getD (k * 4 + c) 0)) := by rw [hq]; rfl
              obtain ⟨x, hx⟩ : ∃ x, x = l.getD (k * 4 + c) 0 := ⟨_, rfl⟩
              obtain ⟨y, hy⟩ : ∃ y, y = f.getD q 0 := ⟨_, rfl⟩
              obtain ⟨z, hz⟩ : ∃ z, z = (iterU (mxF f l c r) (mx2 f l c (mx3 f l c) r) k).getD (r * 4 + c) 0 := ⟨_, rfl⟩
              rw [← hx, ← hy, ← hz] at hset he
              rw [← hx] at hci
              rw [← hy] at hcf
              rw [← hz] at hcj
              rw [← he] at hset
              have hxz := xor_u8 z (am y x)
              have HSET := Lib.hid hset
              have HQ := Lib.hid hq
              clear hset HSS hcell hj hx he hy hz hq hq4
              go_wp2_with fail
              go_region_law (first | (go_simp; go_at_call 14; refine (prod_i _ _ y x _ rfl rfl).mono ?_; rintro e w' ⟨rfl, rfl⟩))
              all_goals trace "WAY"
              all_goals
                go_wp2
                go_roundw
                case rel => exact ⟨k + 1, by omega, by go_num, (HBB.out.other (by omega)).dr, (HFF.out.other (by omega)).dr, (HRR.out.other (by omega)).dr, HSET.out.dr, grownBy_d1 (grownBy_old HGG.out (grownBy_setCell _ _ _ _) (by omega))⟩
                case measure => simp [intOf]; omega
            · obtain rfl : k = 4 := by omega
              clear hcell hfree
              go_wp2_with fail
              go_roundw
              case rel => exact ⟨r + 1, by omega, by go_num, HBB.out, HFF.out, HRR.out, HSS.out, HGG.out⟩
              case measure => simp [intOf]; omega
        · obtain rfl : r = 4 := by omega
          go_wp2_with fail
          go_roundw
          case rel => exact ⟨c + 1, by omega, by go_num, HBB.out, HFF.out, HRR.out, HSS.out, HGG.out⟩
          case measure => simp [intOf]; omega
    · obtain rfl : c = 4 := by omega
      have hs := HSS.out
      rw [mx_end hf hl] at hs
      have HS2 := Lib.hid hs
      clear hs HSS
      go_wp2_with (first | (refine wpList_load_row rfl 33 _ rfl (w.heap.size + 1 + 1 + 1) rfl 33 (cellsB (mixL f l)) (0, 0) _ HS2.out Try.underlying33 rfl (by rw [size_state, cellsB_size, mixL_len hf hl]) ?_) | (refine wpList_store_row rfl 33 _ _ rfl (w.heap.size + 1 + 1) (cellsB (mixL f l)) rfl rfl 33 _ HRR.out (by rw [size_state, cellsB_size, mixL_len hf hl]) (by rw [cellsB_size, cellsB_size, mixL_len hf hl]; rfl) (cellsB_one _) ?_))
      refine bodyPost_ret (v := .agg (cellsB (mixL f l))) (results_cell_row rfl _ _ (w.heap.size + 1 + 1) 33 (cellsB (mixL f l)) (0, 0) _ rfl (setRow_heap _ _ _ _ _ _ HRR.out) Try.underlying33 rfl (by rw [size_state, cellsB_size, mixL_len hf hl])) rfl ⟨rfl, ?_⟩
      exact grownBy_old HGG.out (grownBy_setRow _ _ _) (by omega)

set_option maxRecDepth 100000 in
set_option maxHeartbeats 1000000 in
theorem mix_n (l : List UInt8) (hl : l.length = 16) (w : World) : Calls Try.prog 36 #[aggB l] w fun e w' => e = .returned (aggB (mixL [2, 3, 1, 1] l)) ∧ w.grownBy w' none := by
  have hm := mixL_len (f := [2, 3, 1, 1]) rfl hl
  unfold aggB
  obtain ⟨hb, hr, hg⟩ := two w l z16 33 33
  have HR := Lib.hid hr
  have HG := Lib.hid hg
  have HB := Lib.hid hb
  clear hr hg hb
  go_enter Try.func36, Try.ntmps36
  go_wp2_with (refine wpList_load_row rfl 33 _ rfl w.heap.size rfl 33 (cellsB l) (0, 0) _ HB.out Try.underlying33 rfl (by rw [size_state, cellsB_size, hl]) ?_)
  refine (mixed_n [2, 3, 1, 1] l rfl hl _).mono ?_
  rintro e w' ⟨rfl, hg⟩
  have hr := HR.out.grown hg (by simp)
  have HRR := Lib.hid hr
  have HGG := Lib.hid (grownBy_trans HG.out hg)
  clear hr hg
  unfold aggB
  go_wp2_with (refine wpList_store_row rfl 33 _ _ rfl (w.heap.size + 1) (cellsB (mixL [2, 3, 1, 1] l)) rfl rfl 33 _ HRR.out (by rw [size_state, cellsB_size, hm]) (by rw [cellsB_size, cellsB_size, hm]; rfl) (cellsB_one _) ?_)
  refine bodyPost_ret (v := .agg (cellsB (mixL [2, 3, 1, 1] l))) (results_cell_row rfl _ _ (w.heap.size + 1) 33 (cellsB (mixL [2, 3, 1, 1] l)) (0, 0) _ rfl (setRow_heap _ _ _ _ _ _ HRR.out) Try.underlying33 rfl (by rw [size_state, cellsB_size, hm])) rfl ⟨rfl, ?_⟩
  exact grownBy_old HGG.out (grownBy_setRow _ _ _) (by omega)

set_option maxRecDepth 100000 in
set_option maxHeartbeats 1000000 in
theorem unmix_n (l : List UInt8) (hl : l.length = 16) (w : World) : Calls Try.prog 38 #[aggB l] w fun e w' => e = .returned (aggB (mixL [14, 11, 13, 9] l)) ∧ w.grownBy w' none := by
  have hm := mixL_len (f := [14, 11, 13, 9]) rfl hl
  unfold aggB
  obtain ⟨hb, hr, hg⟩ := two w l z16 33 33
  have HR := Lib.hid hr
  have HG := Lib.hid hg
  have HB := Lib.hid hb
  clear hr hg hb
  go_enter Try.func38, Try.ntmps38
  go_wp2_with (refine wpList_load_row rfl 33 _ rfl w.heap.size rfl 33 (cellsB l) (0, 0) _ HB.out Try.underlying33 rfl (by rw [size_state, cellsB_size, hl]) ?_)
  refine (mixed_n [14, 11, 13, 9] l rfl hl _).mono ?_
  rintro e w' ⟨rfl, hg⟩
  have hr := HR.out.grown hg (by simp)
  have HRR := Lib.hid hr
  have HGG := Lib.hid (grownBy_trans HG.out hg)
  clear hr hg
  unfold aggB
  go_wp2_with (refine wpList_store_row rfl 33 _ _ rfl (w.heap.size + 1) (cellsB (mixL [14, 11, 13, 9] l)) rfl rfl 33 _ HRR.out (by rw [size_state, cellsB_size, hm]) (by rw [cellsB_size, cellsB_size, hm]; rfl) (cellsB_one _) ?_)
  refine bodyPost_ret (v := .agg (cellsB (mixL [14, 11, 13, 9] l))) (results_cell_row rfl _ _ (w.heap.size + 1) 33 (cellsB (mixL [14, 11, 13, 9] l)) (0, 0) _ rfl (setRow_heap _ _ _ _ _ _ HRR.out) Try.underlying33 rfl (by rw [size_state, cellsB_size, hm])) rfl ⟨rfl, ?_⟩
  exact grownBy_old HGG.out (grownBy_setRow _ _ _) (by omega)

end Go.Proofs.Ytlnmglddialhjaa
