/- aes: each, SubAll, UnsubAll; the document's. -/
import Derived.Test.YtlnmglddialhjaaAesSubAll
import Derived.Deep.RegionLaw
namespace Go.Proofs.Ytlnmglddialhjaa
open Go.RowKit

def eaF (f : UInt8 → UInt8) (r c : Nat) (o : List UInt8) : List UInt8 := o.set (r * 4 + c) (f (o.getD (r * 4 + c) 0))
theorem eaF_len (f : UInt8 → UInt8) : ∀ r c o, (eaF f r c o).length = o.length := fun r c o => by simp [eaF]
theorem ea_end (f : UInt8 → UInt8) {l : List UInt8} (hl : l.length = 16) : iter2 (eaF f) l 4 = l.map f := by
  obtain ⟨x0, x1, x2, x3, x4, x5, x6, x7, x8, x9, x10, x11, x12, x13, x14, x15, rfl⟩ := ex16 hl
  simp [iter2, iterU, eaF]
def reF (f : UInt8 → UInt8) (k : Nat) (o : List UInt8) : List UInt8 := o.set (k % 4 * 4 + k / 4) (f (o.getD (k % 4 * 4 + k / 4) 0))
theorem reF_len (f : UInt8 → UInt8) : ∀ k o, (reF f k o).length = o.length := fun k o => by simp [reF]
theorem re_end (f : UInt8 → UInt8) {l : List UInt8} (hl : l.length = 16) : iterU (reF f) l 16 = l.map f := by
  obtain ⟨x0, x1, x2, x3, x4, x5, x6, x7, x8, x9, x10, x11, x12, x13, x14, x15, rfl⟩ := ex16 hl
  simp [iterU, reF]
theorem map_len (f : UInt8 → UInt8) {l : List UInt8} (hl : l.length = 16) : (l.map f).length = 16 := by simp [hl]

set_option maxRecDepth 100000 in
set_option maxHeartbeats 1000000 in
theorem eachSub_n (l : List UInt8) (hl : l.length = 16) (w : World) (gt : Nat) (ht : Blk w gt 57 tabS) : Calls Try.prog 55 #[aggB l, .func (.func 56) #[] #[.pointer (some ⟨gt, 0, none⟩)]] w fun e w' => e = .returned (aggB (l.map asub)) ∧ w.grownBy w' none := by
  unfold aggB
  obtain ⟨hb, hr, hg⟩ := two w l z16 33 33
  have htl := ht.lt
  have ht := ht.grown hg (by simp)
  have HR := Lib.hid hr
  have HG := Lib.hid hg
  have HB := Lib.hid hb
  have HT := Lib.hid ht
  clear hr hg hb ht
  go_enter Try.func55, Try.ntmps55
  go_wp2_with fail
  go_loopw [7] (fun vi wr => ∃ k : Nat, k ≤ 4 ∧ vi = .int .i64 k ∧ Blk wr (w.heap.size + 1) 33 z16 ∧ Blk wr w.heap.size 33 (iter2 (eaF asub) l k) ∧ w.grownBy wr none ∧ Blk wr gt 57 tabS) (fun vi _ => 4 - (intOf vi).toNat)
  case atStart => exact ⟨0, by omega, rfl, HR.out, HB.out, HG.out, HT.out⟩
  case round =>
    obtain ⟨r, hk, rfl, hr, hs, hg, ht⟩ := hrel
    have HRR := Lib.hid hr
    have HGG := Lib.hid hg
    have HSS := Lib.hid hs
    have HTT := Lib.hid ht
    clear hr hg hs ht
    by_cases hlt : r < 4
    · have hr4 : decide ((r : Int) < 4) = true := by simp; omega
      go_wp2_with fail
      clear hr4
      go_loopw [10] (fun vi wr => ∃ k : Nat, k ≤ 4 ∧ vi = .int .i64 k ∧ Blk wr (w.heap.size + 1) 33 z16 ∧ Blk wr w.heap.size 33 (iterU (eaF asub r) (iter2 (eaF asub) l r) k) ∧ w.grownBy wr none ∧ Blk wr gt 57 tabS) (fun vi _ => 4 - (intOf vi).toNat)
      case atStart => exact ⟨0, by omega, rfl, HRR.out, HSS.out, HGG.out, HTT.out⟩
      case round =>
        clear HRR HGG HSS HTT
        obtain ⟨c, hk, rfl, hr, hs, hg, ht⟩ := hrel
        have HRR := Lib.hid hr
        have HGG := Lib.hid hg
        have HTT := Lib.hid ht
        have hlen : (iterU (eaF asub r) (iter2 (eaF asub) l r) c).length = 16 := (iterU_len (eaF_len asub r) c).trans ((iter2_len (eaF_len asub) r).trans hl)
        have hcell := hs.cell 16 hlen
        have hfree := hs.free
        have HSS := Lib.hid hs
        clear hr hg hs hlen ht
        by_cases hlc : c < 4
        · have hj : r * 4 + c < 16 := by omega
          have hcj := hcell _ hj
          have hset := HSS.out.set (r * 4 + c) (asub ((iterU (eaF asub r) (iter2 (eaF asub) l r) c).getD (r * 4 + c) 0))
          have he : iterU (eaF asub r) (iter2 (eaF asub) l r) (c + 1) = (iterU (eaF asub r) (iter2 (eaF asub) l r) c).set (r * 4 + c) (asub ((iterU (eaF asub r) (iter2 (eaF asub) l r) c).getD (r * 4 + c) 0)) := rfl
          obtain ⟨x, hx⟩ : ∃ x, x = (iterU (eaF asub r) (iter2 (eaF asub) l r) c).getD (r * 4 + c) 0 := ⟨_, rfl⟩
          rw [← hx] at hset hcj he
          rw [← he] at hset
          have HSET := Lib.hid hset
          clear hset HSS hcell hj hx he
          go_wp2_with fail
          go_region_with (go_at_call 56; refine (tabl_i _ x gt _ rfl HTT.out.dr).mono ?_; rintro e w' ⟨rfl, rfl⟩)
          all_goals trace "WAY"
          all_goals
            go_wp2
            go_roundw
            case rel => exact ⟨c + 1, by omega, by go_num, (HRR.out.other (by omega)).dr, HSET.out.dr, grownBy_d1 (grownBy_old HGG.out (grownBy_setCell _ _ _ _) (by omega)), (HTT.out.other (by omega)).dr⟩
            case measure => simp [intOf]; omega
        · obtain rfl : c = 4 := by omega
          clear hcell hfree
          go_wp2_with fail
          go_roundw
          case rel => exact ⟨r + 1, by omega, by go_num, HRR.out, HSS.out, HGG.out, HTT.out⟩
          case measure => simp [intOf]; omega
    · obtain rfl : r = 4 := by omega
      have hs := HSS.out
      rw [ea_end asub hl] at hs
      have HS2 := Lib.hid hs
      clear hs HSS
      go_wp2_with (first | (refine wpList_load_row rfl 33 _ rfl w.heap.size rfl 33 (cellsB (l.map asub)) (0, 0) _ HS2.out Try.underlying33 rfl (by rw [size_state, cellsB_size, map_len asub hl]) ?_) | (refine wpList_store_row rfl 33 _ _ rfl (w.heap.size + 1) (cellsB (l.map asub)) rfl rfl 33 _ HRR.out (by rw [size_state, cellsB_size, map_len asub hl]) (by rw [cellsB_size, cellsB_size, map_len asub hl]; rfl) (cellsB_one _) ?_))
      refine bodyPost_ret (v := .agg (cellsB (l.map asub))) (results_cell_row rfl _ _ (w.heap.size + 1) 33 (cellsB (l.map asub)) (0, 0) _ rfl (setRow_heap _ _ _ _ _ _ HRR.out) Try.underlying33 rfl (by rw [size_state, cellsB_size, map_len asub hl])) rfl ⟨rfl, ?_⟩
      exact grownBy_old HGG.out (grownBy_setRow _ _ _) (by omega)

set_option maxRecDepth 100000 in
set_option maxHeartbeats 1000000 in
theorem eachUn_n (l : List UInt8) (hl : l.length = 16) (w : World) : Calls Try.prog 55 #[aggB l, .func (.func 20) #[] #[]] w fun e w' => e = .returned (aggB (l.map aunsub)) ∧ w.grownBy w' none := by
  unfold aggB
  obtain ⟨hb, hr, hg⟩ := two w l z16 33 33
  skip
  skip
  have HR := Lib.hid hr
  have HG := Lib.hid hg
  have HB := Lib.hid hb
  skip
  clear hr hg hb 
  go_enter Try.func55, Try.ntmps55
  go_wp2_with fail
  go_loopw [7] (fun vi wr => ∃ k : Nat, k ≤ 4 ∧ vi = .int .i64 k ∧ Blk wr (w.heap.size + 1) 33 z16 ∧ Blk wr w.heap.size 33 (iter2 (eaF aunsub) l k) ∧ w.grownBy wr none) (fun vi _ => 4 - (intOf vi).toNat)
  case atStart => exact ⟨0, by omega, rfl, HR.out, HB.out, HG.out⟩
  case round =>
    obtain ⟨r, hk, rfl, hr, hs, hg⟩ := hrel
    have HRR := Lib.hid hr
    have HGG := Lib.hid hg
    have HSS := Lib.hid hs
    skip
    clear hr hg hs 
    by_cases hlt : r < 4
    · have hr4 : decide ((r : Int) < 4) = true := by simp; omega
      go_wp2_with fail
      clear hr4
      go_loopw [10] (fun vi wr => ∃ k : Nat, k ≤ 4 ∧ vi = .int .i64 k ∧ Blk wr (w.heap.size + 1) 33 z16 ∧ Blk wr w.heap.size 33 (iterU (eaF aunsub r) (iter2 (eaF aunsub) l r) k) ∧ w.grownBy wr none) (fun vi _ => 4 - (intOf vi).toNat)
      case atStart => exact ⟨0, by omega, rfl, HRR.out, HSS.out, HGG.out⟩
      case round =>
        clear HRR HGG HSS 
        obtain ⟨c, hk, rfl, hr, hs, hg⟩ := hrel
        have HRR := Lib.hid hr
        have HGG := Lib.hid hg
        skip
        have hlen : (iterU (eaF aunsub r) (iter2 (eaF aunsub) l r) c).length = 16 := (iterU_len (eaF_len aunsub r) c).trans ((iter2_len (eaF_len aunsub) r).trans hl)
        have hcell := hs.cell 16 hlen
        have hfree := hs.free
        have HSS := Lib.hid hs
        clear hr hg hs hlen 
        by_cases hlc : c < 4
        · have hj : r * 4 + c < 16 := by omega
          have hcj := hcell _ hj
          have hset := HSS.out.set (r * 4 + c) (aunsub ((iterU (eaF aunsub r) (iter2 (eaF aunsub) l r) c).getD (r * 4 + c) 0))
          have he : iterU (eaF aunsub r) (iter2 (eaF aunsub) l r) (c + 1) = (iterU (eaF aunsub r) (iter2 (eaF aunsub) l r) c).set (r * 4 + c) (aunsub ((iterU (eaF aunsub r) (iter2 (eaF aunsub) l r) c).getD (r * 4 + c) 0)) := rfl
          obtain ⟨x, hx⟩ : ∃ x, x = (iterU (eaF aunsub r) (iter2 (eaF aunsub) l r) c).getD (r * 4 + c) 0 := ⟨_, rfl⟩
          rw [← hx] at hset hcj he
          rw [← he] at hset
          have HSET := Lib.hid hset
          clear hset HSS hcell hj hx he
          go_wp2_with fail
          go_region_with (go_at_call 20; refine (unsub_i _ x _ rfl).mono ?_; rintro e w' ⟨rfl, rfl⟩)
          all_goals trace "WAY"
          all_goals
            go_wp2
            go_roundw
            case rel => exact ⟨c + 1, by omega, by go_num, (HRR.out.other (by omega)).dr, HSET.out.dr, grownBy_d1 (grownBy_old HGG.out (grownBy_setCell _ _ _ _) (by omega))⟩
            case measure => simp [intOf]; omega
        · obtain rfl : c = 4 := by omega
          clear hcell hfree
          go_wp2_with fail
          go_roundw
          case rel => exact ⟨r + 1, by omega, by go_num, HRR.out, HSS.out, HGG.out⟩
          case measure => simp [intOf]; omega
    · obtain rfl : r = 4 := by omega
      have hs := HSS.out
      rw [ea_end aunsub hl] at hs
      have HS2 := Lib.hid hs
      clear hs HSS
      go_wp2_with (first | (refine wpList_load_row rfl 33 _ rfl w.heap.size rfl 33 (cellsB (l.map aunsub)) (0, 0) _ HS2.out Try.underlying33 rfl (by rw [size_state, cellsB_size, map_len aunsub hl]) ?_) | (refine wpList_store_row rfl 33 _ _ rfl (w.heap.size + 1) (cellsB (l.map aunsub)) rfl rfl 33 _ HRR.out (by rw [size_state, cellsB_size, map_len aunsub hl]) (by rw [cellsB_size, cellsB_size, map_len aunsub hl]; rfl) (cellsB_one _) ?_))
      refine bodyPost_ret (v := .agg (cellsB (l.map aunsub))) (results_cell_row rfl _ _ (w.heap.size + 1) 33 (cellsB (l.map aunsub)) (0, 0) _ rfl (setRow_heap _ _ _ _ _ _ HRR.out) Try.underlying33 rfl (by rw [size_state, cellsB_size, map_len aunsub hl])) rfl ⟨rfl, ?_⟩
      exact grownBy_old HGG.out (grownBy_setRow _ _ _) (by omega)

set_option maxRecDepth 100000 in
set_option maxHeartbeats 1000000 in
theorem refSubAll_n (l : List UInt8) (hl : l.length = 16) (w : World) : Calls Try.prog 29 #[aggB l] w fun e w' => e = .returned (aggB (l.map asub)) ∧ w.grownBy w' none := by
  unfold aggB
  obtain ⟨hs, hr, hg⟩ := two w l z16 33 33
  have HR := Lib.hid hr
  have HS := Lib.hid hs
  have HG := Lib.hid hg
  clear hr hg hs
  go_enter Try.func29, Try.ntmps29
  go_wp2_with fail
  go_loopw [3] (fun vi wr => ∃ k : Nat, k ≤ 16 ∧ vi = .int .i64 k ∧ Blk wr (w.heap.size + 1) 33 z16 ∧ Blk wr w.heap.size 33 (iterU (reF asub) l k) ∧ w.grownBy wr none) (fun vi _ => 16 - (intOf vi).toNat)
  case atStart => exact ⟨0, by omega, rfl, HR.out, HS.out, HG.out⟩
  case round =>
    obtain ⟨k, hk, rfl, hr, hs, hg⟩ := hrel
    have HRR := Lib.hid hr
    have HGG := Lib.hid hg
    have hlen : (iterU (reF asub) l k).length = 16 := (iterU_len (reF_len asub) k).trans hl
    have hcell := hs.cell 16 hlen
    have hfree := hs.free
    have HSS := Lib.hid hs
    clear hr hg hs hlen
    by_cases hlt : k < 16
    · have hj : k % 4 * 4 + k / 4 < 16 := by omega
      have hcj := hcell _ hj
      have hset := HSS.out.set (k % 4 * 4 + k / 4) (asub ((iterU (reF asub) l k).getD (k % 4 * 4 + k / 4) 0))
      have he : iterU (reF asub) l (k + 1) = (iterU (reF asub) l k).set (k % 4 * 4 + k / 4) (asub ((iterU (reF asub) l k).getD (k % 4 * 4 + k / 4) 0)) := rfl
      obtain ⟨x, hx⟩ : ∃ x, x = (iterU (reF asub) l k).getD (k % 4 * 4 + k / 4) 0 := ⟨_, rfl⟩
      rw [← hx] at hset hcj he
      rw [← he] at hset
      obtain ⟨q, hq⟩ : ∃ q, q = k % 4 := ⟨_, rfl⟩
      obtain ⟨d, hd⟩ : ∃ d, d = k / 4 := ⟨_, rfl⟩
      have t1 : ((k : Int)).tmod 4 = (q : Int) := by rw [hq]; rfl
      have t2 : ((k : Int)).tdiv 4 = (d : Int) := by rw [hd]; rfl
      have t1' : (k : Int) % 4 = (q : Int) := by omega
      have t2' : (k : Int) / 4 = (d : Int) := by omega
      have t5 : IntKind.i64.wrap (d : Int) = (d : Int) := i64_nat _ (by omega)
      have t3 : (q : Int) < 4 := by omega
      have t4 : (d : Int) < 4 := by omega
      rw [← hq, ← hd] at hset hcj
      have HSET := Lib.hid hset
      have HQ := Lib.hid hq
      have HD := Lib.hid hd
      clear hset HSS hcell hj hx he hq hd
      go_wp2_with fail
      go_region_with (go_at_call 19; refine (refSub_i _ x _ rfl).mono ?_; rintro e w' ⟨rfl, rfl⟩)
      all_goals trace "WAY"
      all_goals
        go_wp2
        go_roundw
        case rel => exact ⟨k + 1, by omega, by go_num, (HRR.out.other (by omega)).dr, HSET.out.dr, grownBy_d1 (grownBy_old HGG.out (grownBy_setCell _ _ _ _) (by omega))⟩
        case measure => simp [intOf]; omega
    · obtain rfl : k = 16 := by omega
      clear hcell hfree
      have hs := HSS.out
      rw [re_end asub hl] at hs
      have HS2 := Lib.hid hs
      clear hs HSS
      go_wp2_with (first | (refine wpList_load_row rfl 33 _ rfl w.heap.size rfl 33 (cellsB (l.map asub)) (0, 0) _ HS2.out Try.underlying33 rfl (by rw [size_state, cellsB_size, map_len asub hl]) ?_) | (refine wpList_store_row rfl 33 _ _ rfl (w.heap.size + 1) (cellsB (l.map asub)) rfl rfl 33 _ HRR.out (by rw [size_state, cellsB_size, map_len asub hl]) (by rw [cellsB_size, cellsB_size, map_len asub hl]; rfl) (cellsB_one _) ?_))
      refine bodyPost_ret (v := .agg (cellsB (l.map asub))) (results_cell_row rfl _ _ (w.heap.size + 1) 33 (cellsB (l.map asub)) (0, 0) _ rfl (setRow_heap _ _ _ _ _ _ HRR.out) Try.underlying33 rfl (by rw [size_state, cellsB_size, map_len asub hl])) rfl ⟨rfl, ?_⟩
      exact grownBy_old HGG.out (grownBy_setRow _ _ _) (by omega)

set_option maxRecDepth 100000 in
set_option maxHeartbeats 1000000 in
theorem refUnsubAll_n (l : List UInt8) (hl : l.length = 16) (w : World) : Calls Try.prog 31 #[aggB l] w fun e w' => e = .returned (aggB (l.map aunsub)) ∧ w.grownBy w' none := by
  unfold aggB
  obtain ⟨hs, hr, hg⟩ := two w l z16 33 33
  have HR := Lib.hid hr
  have HS := Lib.hid hs
  have HG := Lib.hid hg
  clear hr hg hs
  go_enter Try.func31, Try.ntmps31
  go_wp2_with fail
  go_loopw [3] (fun vi wr => ∃ k : Nat, k ≤ 16 ∧ vi = .int .i64 k ∧ Blk wr (w.heap.size + 1) 33 z16 ∧ Blk wr w.heap.size 33 (iterU (reF aunsub) l k) ∧ w.grownBy wr none) (fun vi _ => 16 - (intOf vi).toNat)
  case atStart => exact ⟨0, by omega, rfl, HR.out, HS.out, HG.out⟩
  case round =>
    obtain ⟨k, hk, rfl, hr, hs, hg⟩ := hrel
    have HRR := Lib.hid hr
    have HGG := Lib.hid hg
    have hlen : (iterU (reF aunsub) l k).length = 16 := (iterU_len (reF_len aunsub) k).trans hl
    have hcell := hs.cell 16 hlen
    have hfree := hs.free
    have HSS := Lib.hid hs
    clear hr hg hs hlen
    by_cases hlt : k < 16
    · have hj : k % 4 * 4 + k / 4 < 16 := by omega
      have hcj := hcell _ hj
      have hset := HSS.out.set (k % 4 * 4 + k / 4) (aunsub ((iterU (reF aunsub) l k).getD (k % 4 * 4 + k / 4) 0))
      have he : iterU (reF aunsub) l (k + 1) = (iterU (reF aunsub) l k).set (k % 4 * 4 + k / 4) (aunsub ((iterU (reF aunsub) l k).getD (k % 4 * 4 + k / 4) 0)) := rfl
      obtain ⟨x, hx⟩ : ∃ x, x = (iterU (reF aunsub) l k).getD (k % 4 * 4 + k / 4) 0 := ⟨_, rfl⟩
      rw [← hx] at hset hcj he
      rw [← he] at hset
      obtain ⟨q, hq⟩ : ∃ q, q = k % 4 := ⟨_, rfl⟩
      obtain ⟨d, hd⟩ : ∃ d, d = k / 4 := ⟨_, rfl⟩
      have t1 : ((k : Int)).tmod 4 = (q : Int) := by rw [hq]; rfl
      have t2 : ((k : Int)).tdiv 4 = (d : Int) := by rw [hd]; rfl
      have t1' : (k : Int) % 4 = (q : Int) := by omega
      have t2' : (k : Int) / 4 = (d : Int) := by omega
      have t5 : IntKind.i64.wrap (d : Int) = (d : Int) := i64_nat _ (by omega)
      have t3 : (q : Int) < 4 := by omega
      have t4 : (d : Int) < 4 := by omega
      rw [← hq, ← hd] at hset hcj
      have HSET := Lib.hid hset
      have HQ := Lib.hid hq
      have HD := Lib.hid hd
      clear hset HSS hcell hj hx he hq hd
      go_wp2_with fail
      go_region_with (go_at_call 21; refine (refUnsub_i _ x _ rfl).mono ?_; rintro e w' ⟨rfl, rfl⟩)
      all_goals trace "WAY"
      all_goals
        go_wp2
        go_roundw
        case rel => exact ⟨k + 1, by omega, by go_num, (HRR.out.other (by omega)).dr, HSET.out.dr, grownBy_d1 (grownBy_old HGG.out (grownBy_setCell _ _ _ _) (by omega))⟩
        case measure => simp [intOf]; omega
    · obtain rfl : k = 16 := by omega
      clear hcell hfree
      have hs := HSS.out
      rw [re_end aunsub hl] at hs
      have HS2 := Lib.hid hs
      clear hs HSS
      go_wp2_with (first | (refine wpList_load_row rfl 33 _ rfl w.heap.size rfl 33 (cellsB (l.map aunsub)) (0, 0) _ HS2.out Try.underlying33 rfl (by rw [size_state, cellsB_size, map_len aunsub hl]) ?_) | (refine wpList_store_row rfl 33 _ _ rfl (w.heap.size + 1) (cellsB (l.map aunsub)) rfl rfl 33 _ HRR.out (by rw [size_state, cellsB_size, map_len aunsub hl]) (by rw [cellsB_size, cellsB_size, map_len aunsub hl]; rfl) (cellsB_one _) ?_))
      refine bodyPost_ret (v := .agg (cellsB (l.map aunsub))) (results_cell_row rfl _ _ (w.heap.size + 1) 33 (cellsB (l.map aunsub)) (0, 0) _ rfl (setRow_heap _ _ _ _ _ _ HRR.out) Try.underlying33 rfl (by rw [size_state, cellsB_size, map_len aunsub hl])) rfl ⟨rfl, ?_⟩
      exact grownBy_old HGG.out (grownBy_setRow _ _ _) (by omega)

end Go.Proofs.Ytlnmglddialhjaa
