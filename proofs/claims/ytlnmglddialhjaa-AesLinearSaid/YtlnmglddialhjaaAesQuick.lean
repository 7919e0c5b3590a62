/- aes: with, quick. -/
import Derived.Test.YtlnmglddialhjaaAesMix
import Derived.Test.YtlnmglddialhjaaAesSched
import Derived.Test.YtlnmglddialhjaaAesAlg
import Derived.Deep.RegionLaw
namespace Go.Proofs.Ytlnmglddialhjaa
open Go.RowKit

def wiF (b : List UInt8) (i : Nat) (o : List UInt8) : List UInt8 := o.set i (o.getD i 0 ^^^ b.getD i 0)
theorem wiF_len (b : List UInt8) : ∀ i o, (wiF b i o).length = o.length := fun i o => by simp [wiF]
def xorL (a b : List UInt8) : List UInt8 := List.zipWith (· ^^^ ·) a b
theorem xorL_len {a b : List UInt8} (ha : a.length = 16) (hb : b.length = 16) : (xorL a b).length = 16 := by simp [xorL, ha, hb]
theorem wi_end {a b : List UInt8} (ha : a.length = 16) (hb : b.length = 16) : iterU (wiF b) a 16 = xorL a b := by
  obtain ⟨x0, x1, x2, x3, x4, x5, x6, x7, x8, x9, x10, x11, x12, x13, x14, x15, rfl⟩ := ex16 ha
  obtain ⟨y0, y1, y2, y3, y4, y5, y6, y7, y8, y9, y10, y11, y12, y13, y14, y15, rfl⟩ := ex16 hb
  simp [iterU, wiF, xorL]

set_option maxRecDepth 100000 in
set_option maxHeartbeats 1000000 in
theorem with_n (a b : List UInt8) (ha : a.length = 16) (hb : b.length = 16) (w : World) : Calls Try.prog 62 #[aggB a, aggB b] w fun e w' => e = .returned (aggB (xorL a b)) ∧ w.grownBy w' none := by
  unfold aggB
  obtain ⟨hs, hbb, hr, hg⟩ := three w a b z16 27 27 27
  have HR := Lib.hid hr
  have HS := Lib.hid hs
  have HG := Lib.hid hg
  have HB := Lib.hid hbb
  clear hr hg hs hbb
  go_enter Try.func62, Try.ntmps62
  go_wp2_with fail
  go_loopw [6] (fun vi wr => ∃ k : Nat, k ≤ 16 ∧ vi = .int .i64 k ∧ Blk wr w.heap.size 27 (iterU (wiF b) a k) ∧ Blk wr (w.heap.size + 1) 27 b ∧ Blk wr (w.heap.size + 1 + 1) 27 z16 ∧ w.grownBy wr none) (fun vi _ => 16 - (intOf vi).toNat)
  case atStart => exact ⟨0, by omega, rfl, HS.out, HB.out, HR.out, HG.out⟩
  case round =>
    obtain ⟨k, hk, rfl, hs, hbb, hr, hg⟩ := hrel
    have HBB := Lib.hid hbb
    have HRR := Lib.hid hr
    have HGG := Lib.hid hg
    have hlen : (iterU (wiF b) a k).length = 16 := (iterU_len (wiF_len b) k).trans ha
    have hcell := hs.cell 16 hlen
    have hfree := hs.free
    have HSS := Lib.hid hs
    clear hr hg hs hlen hbb
    by_cases hlt : k < 16
    · have hci := HBB.out.cell 16 hb k hlt
      have hcj := hcell k hlt
      have hset := HSS.out.set k ((iterU (wiF b) a k).getD k 0 ^^^ b.getD k 0)
      have he : iterU (wiF b) a (k + 1) = (iterU (wiF b) a k).set k ((iterU (wiF b) a k).getD k 0 ^^^ b.getD k 0) := rfl
      obtain ⟨x, hx⟩ : ∃ x, x = (iterU (wiF b) a k).getD k 0 := ⟨_, rfl⟩
      obtain ⟨y, hy⟩ : ∃ y, y = b.getD k 0 := ⟨_, rfl⟩
      rw [← hx, ← hy] at hset he
      rw [← hx] at hcj
      rw [← hy] at hci
      rw [← he] at hset
      have hxy := xor_u8 x y
      have HSET := Lib.hid hset
      clear hset HSS hcell hx hy he
      go_wp2_with fail
      go_region
      go_wp2
      go_roundw
      case rel => exact ⟨k + 1, by omega, by go_num, HSET.out.dr, (HBB.out.other (by omega)).dr, (HRR.out.other (by omega)).dr, grownBy_d1 (grownBy_old HGG.out (grownBy_setCell _ _ _ _) (by omega))⟩
      case measure => simp [intOf]; omega
    · obtain rfl : k = 16 := by omega
      clear hcell hfree
      have hs := HSS.out
      rw [wi_end ha hb] at hs
      have HS2 := Lib.hid hs
      clear hs HSS
      go_wp2_with (first | (refine wpList_load_row rfl 27 _ rfl w.heap.size rfl 27 (cellsB (xorL a b)) (0, 0) _ HS2.out Try.underlying27 rfl (by rw [size_block, cellsB_size, xorL_len ha hb]) ?_) | (refine wpList_store_row rfl 27 _ _ rfl (w.heap.size + 1 + 1) (cellsB (xorL a b)) rfl rfl 27 _ HRR.out (by rw [size_block, cellsB_size, xorL_len ha hb]) (by rw [cellsB_size, cellsB_size, xorL_len ha hb]; rfl) (cellsB_one _) ?_))
      refine bodyPost_ret (v := .agg (cellsB (xorL a b))) (results_cell_row rfl _ _ (w.heap.size + 1 + 1) 27 (cellsB (xorL a b)) (0, 0) _ rfl (setRow_heap _ _ _ _ _ _ HRR.out) Try.underlying27 rfl (by rw [size_block, cellsB_size, xorL_len ha hb])) rfl ⟨rfl, ?_⟩
      exact grownBy_old HGG.out (grownBy_setRow _ _ _) (by omega)

theorem ax8_eq (p : UInt8) : ax8' p = ax8 p := rfl
theorem ax8_add (a b : UInt8) : ax8' (a ^^^ b) = ax8' a ^^^ ax8' b := by
  apply UInt8.toNat_inj.1
  rw [UInt8.toNat_xor, ax8_nat, ax8_nat, ax8_nat, UInt8.toNat_xor]
  exact ax_xor _ _ a.toNat_lt b.toNat_lt
theorem two_am (p : UInt8) : am 2 p = ax8' p := by
  have := all256 (p := fun p => am 2 p == ax8' p) (by decide +kernel) p
  simpa using this
theorem three_am (p : UInt8) : am 3 p = ax8' p ^^^ p := by
  have := all256 (p := fun p => am 3 p == ax8' p ^^^ p) (by decide +kernel) p
  simpa using this
theorem xxl (x r : UInt8) : x ^^^ (x ^^^ r) = r := by rw [← UInt8.xor_assoc, UInt8.xor_self, UInt8.zero_xor]
theorem xlc (x y r : UInt8) : x ^^^ (y ^^^ r) = y ^^^ (x ^^^ r) := by rw [← UInt8.xor_assoc, UInt8.xor_comm x y, UInt8.xor_assoc]
def quF (s : List UInt8) (c r : Nat) (o : List UInt8) : List UInt8 := o.set (r * 4 + c) ((s.getD (r * 4 + c) 0 ^^^ (((s.getD c 0 ^^^ s.getD (4 + c) 0) ^^^ s.getD (8 + c) 0) ^^^ s.getD (12 + c) 0)) ^^^ ax8' (s.getD (r * 4 + c) 0 ^^^ s.getD ((r + 1) % 4 * 4 + c) 0))
theorem quF_len (s : List UInt8) : ∀ c r o, (quF s c r o).length = o.length := fun c r o => by simp [quF]
set_option maxHeartbeats 2000000 in
theorem qu_end {s : List UInt8} (h : s.length = 16) : iter2 (quF s) z16 4 = mixL [2, 3, 1, 1] s := by
  obtain ⟨x0, x1, x2, x3, x4, x5, x6, x7, x8, x9, x10, x11, x12, x13, x14, x15, rfl⟩ := ex16 h
  simp only [iter2, iterU, quF, z16, mixL]
  simp only [Nat.zero_mul, Nat.zero_add, Nat.add_zero, Nat.reduceMul, Nat.reduceAdd, Nat.reduceMod, List.getD_cons_zero, List.getD_cons_succ, List.set_cons_zero, List.set_cons_succ]
  simp only [two_am, three_am, am_one_left, ax8_add, UInt8.xor_assoc]
  refine congr (congrArg List.cons ?_) (congr (congrArg List.cons ?_) (congr (congrArg List.cons ?_) (congr (congrArg List.cons ?_) (congr (congrArg List.cons ?_) (congr (congrArg List.cons ?_) (congr (congrArg List.cons ?_) (congr (congrArg List.cons ?_) (congr (congrArg List.cons ?_) (congr (congrArg List.cons ?_) (congr (congrArg List.cons ?_) (congr (congrArg List.cons ?_) (congr (congrArg List.cons ?_) (congr (congrArg List.cons ?_) (congr (congrArg List.cons ?_) (congr (congrArg List.cons ?_) rfl)))))))))))))))
  all_goals simp only [UInt8.xor_assoc, UInt8.xor_comm, xlc, xxl, UInt8.xor_self, UInt8.zero_xor, UInt8.xor_zero]

set_option maxRecDepth 100000 in
set_option maxHeartbeats 2000000 in
theorem quick_n (s : List UInt8) (hl : s.length = 16) (w : World) : Calls Try.prog 64 #[aggB s] w fun e w' => e = .returned (aggB (mixL [2, 3, 1, 1] s)) ∧ w.grownBy w' none := by
  have hml := mixL_len (f := [2, 3, 1, 1]) rfl hl
  have hend := qu_end hl
  obtain ⟨m, hm⟩ : ∃ m, m = mixL [2, 3, 1, 1] s := ⟨_, rfl⟩
  rw [← hm] at hml hend ⊢
  have HEND := Lib.hid hend
  clear hm hend
  unfold aggB
  obtain ⟨hb, hr, hs, hg⟩ := three w s z16 z16 33 33 33
  have HR := Lib.hid hr
  have HS := Lib.hid hs
  have HG := Lib.hid hg
  have HB := Lib.hid hb
  clear hr hg hs hb
  go_enter Try.func64, Try.ntmps64
  go_wp2_with fail
  go_loopw [7] (fun vi wr => ∃ k : Nat, k ≤ 4 ∧ vi = .int .i64 k ∧ Blk wr w.heap.size 33 s ∧ Blk wr (w.heap.size + 1) 33 z16 ∧ Blk wr (w.heap.size + 1 + 1) 33 (iter2 (quF s) z16 k) ∧ w.grownBy wr none) (fun vi _ => 4 - (intOf vi).toNat)
  case atStart => exact ⟨0, by omega, rfl, HB.out, HR.out, HS.out, HG.out⟩
  case round =>
    obtain ⟨c, hk, rfl, hb, hr, hs, hg⟩ := hrel
    have HBB := Lib.hid hb
    have HRR := Lib.hid hr
    have HGG := Lib.hid hg
    have HSS := Lib.hid hs
    clear hr hg hs hb
    by_cases hlt : c < 4
    · have hc4 : decide ((c : Int) < 4) = true := by simp; omega
      have hcc := HBB.out.cell 16 hl
      have c0 := hcc c (by omega)
      have c1 := hcc (4 + c) (by omega)
      have c2 := hcc (8 + c) (by omega)
      have c3 := hcc (12 + c) (by omega)
      obtain ⟨x0, y0⟩ : ∃ x, x = s.getD c 0 := ⟨_, rfl⟩
      obtain ⟨x1, y1⟩ : ∃ x, x = s.getD (4 + c) 0 := ⟨_, rfl⟩
      obtain ⟨x2, y2⟩ : ∃ x, x = s.getD (8 + c) 0 := ⟨_, rfl⟩
      obtain ⟨x3, y3⟩ : ∃ x, x = s.getD (12 + c) 0 := ⟨_, rfl⟩
      obtain ⟨al, hal⟩ : ∃ x, x = (((s.getD c 0 ^^^ s.getD (4 + c) 0) ^^^ s.getD (8 + c) 0) ^^^ s.getD (12 + c) 0) := ⟨_, rfl⟩
      rw [← y0] at c0
      rw [← y1] at c1
      rw [← y2] at c2
      rw [← y3] at c3
      have hal' := hal
      rw [← y0, ← y1, ← y2, ← y3] at hal'
      obtain ⟨p1, hp1⟩ : ∃ p, p = x0 ^^^ x1 := ⟨_, rfl⟩
      obtain ⟨p2, hp2⟩ : ∃ p, p = p1 ^^^ x2 := ⟨_, rfl⟩
      have e1 := xor_u8 x0 x1
      have e2 := xor_u8 p1 x2
      have e3 := xor_u8 p2 x3
      have e4 : p2 ^^^ x3 = al := by rw [hal', hp2, hp1]
      rw [← hp1] at e1
      rw [← hp2] at e2
      rw [e4] at e3
      clear e4 hp1 hp2
      have HAL := Lib.hid hal
      clear hcc y0 y1 y2 y3 hal hal'
      go_wp2_with fail
      go_region
      clear c0 c1 c2 c3 e1 e2 e3
      go_wp2_with fail
      go_loopw [29] (fun vi wr => ∃ k : Nat, k ≤ 4 ∧ vi = .int .i64 k ∧ Blk wr w.heap.size 33 s ∧ Blk wr (w.heap.size + 1) 33 z16 ∧ Blk wr (w.heap.size + 1 + 1) 33 (iterU (quF s c) (iter2 (quF s) z16 c) k) ∧ w.grownBy wr none) (fun vi _ => 4 - (intOf vi).toNat)
      case atStart => exact ⟨0, by omega, rfl, HBB.out.dr, HRR.out.dr, HSS.out.dr, grownBy_d1 HGG.out⟩
      case round =>
        clear HBB HRR HGG HSS
        obtain ⟨r, hk, rfl, hb, hr, hs, hg⟩ := hrel
        have HBB := Lib.hid hb
        have HRR := Lib.hid hr
        have HGG := Lib.hid hg
        have hlen : (iterU (quF s c) (iter2 (quF s) z16 c) r).length = 16 := (iterU_len (quF_len s c) r).trans (iter2_len (quF_len s) c)
        have hcell := hs.cell 16 hlen
        have hfree := hs.free
        have HSS := Lib.hid hs
        clear hr hg hs hlen hb
        by_cases hlr : r < 4
        · obtain ⟨q, hq⟩ : ∃ q, q = (r + 1) % 4 := ⟨_, rfl⟩
          have ci := HBB.out.cell 16 hl (r * 4 + c) (by omega)
          have cq := HBB.out.cell 16 hl (q * 4 + c) (by omega)
          have hcj := hcell (r * 4 + c) (by omega)
          have hset := HSS.out.set (r * 4 + c) ((s.getD (r * 4 + c) 0 ^^^ al) ^^^ ax8' (s.getD (r * 4 + c) 0 ^^^ s.getD (q * 4 + c) 0))
          have he : iterU (quF s c) (iter2 (quF s) z16 c) (r + 1) = (iterU (quF s c) (iter2 (quF s) z16 c) r).set (r * 4 + c) ((s.getD (r * 4 + c) 0 ^^^ al) ^^^ ax8' (s.getD (r * 4 + c) 0 ^^^ s.getD (q * 4 + c) 0)) := by rw [hq, HAL.out]; rfl
          obtain ⟨x, hx⟩ : ∃ x, x = s.getD (r * 4 + c) 0 := ⟨_, rfl⟩
          obtain ⟨y, hy⟩ : ∃ y, y = s.getD (q * 4 + c) 0 := ⟨_, rfl⟩
          obtain ⟨u0, hu0⟩ : ∃ u0, _ = some u0 := ⟨_, hcj⟩
          rw [← hx, ← hy] at hset he
          rw [← hx] at ci
          rw [← hy] at cq
          rw [← he] at hset
          obtain ⟨v1, hv1⟩ : ∃ p, p = x ^^^ al := ⟨_, rfl⟩
          obtain ⟨v2, hv2⟩ : ∃ p, p = x ^^^ y := ⟨_, rfl⟩
          have e1 := xor_u8 x al
          have e2 := xor_u8 x y
          rw [← hv1] at hset e1
          rw [← hv2] at hset e2
          obtain ⟨v3, hv3⟩ : ∃ p, p = v1 ^^^ ax8' v2 := ⟨_, rfl⟩
          have e3 := xor_u8 v1 (ax8' v2)
          rw [← hv3] at hset e3
          clear hv1 hv2 hv3
          have f1 : IntKind.i64.wrap ((r : Int) + 1) = (r : Int) + 1 := IntWalk.i64_in _ (by omega)
          have f3 : ((r : Int) + 1).tmod 4 = (q : Int) := by rw [Int.tmod_eq_emod_of_nonneg (by omega)]; omega
          have f4 : (q : Int) < 4 := by omega
          have r4 : (r : Int) < 4 := by omega
          have c4 : (c : Int) < 4 := by omega
          have HSET := Lib.hid hset
          have HQ := Lib.hid hq
          clear hset HSS hcell hcj hx hy he hq
          go_wp2_with fail
          go_region_law (first | (go_simp; go_at_call 50; refine (double_u v2 _).mono ?_; rintro e w' ⟨rfl, rfl⟩))
          all_goals trace "WAY"
          all_goals
            go_wp2
            go_roundw
            case rel => exact ⟨r + 1, by omega, by go_num, (HBB.out.other (by omega)).dr, (HRR.out.other (by omega)).dr, HSET.out.dr, grownBy_d1 (grownBy_old HGG.out (grownBy_setCell _ _ _ _) (by omega))⟩
            case measure => simp [intOf]; omega
        · obtain rfl : r = 4 := by omega
          clear hcell hfree
          go_wp2_with fail
          go_roundw
          case rel => exact ⟨c + 1, by omega, by go_num, HBB.out, HRR.out, HSS.out, HGG.out⟩
          case measure => simp [intOf]; omega
    · obtain rfl : c = 4 := by omega
      have hs := HSS.out
      rw [HEND.out] at hs
      have HS2 := Lib.hid hs
      clear hs HSS
      go_wp2_with (first | (refine wpList_load_row rfl 33 _ rfl (w.heap.size + 1 + 1) rfl 33 (cellsB m) (0, 0) _ HS2.out Try.underlying33 rfl (by rw [size_state, cellsB_size, hml]) ?_) | (refine wpList_store_row rfl 33 _ _ rfl (w.heap.size + 1) (cellsB m) rfl rfl 33 _ HRR.out (by rw [size_state, cellsB_size, hml]) (by rw [cellsB_size, cellsB_size, hml]; rfl) (cellsB_one _) ?_))
      refine bodyPost_ret (v := .agg (cellsB m)) (results_cell_row rfl _ _ (w.heap.size + 1) 33 (cellsB m) (0, 0) _ rfl (setRow_heap _ _ _ _ _ _ HRR.out) Try.underlying33 rfl (by rw [size_state, cellsB_size, hml])) rfl ⟨rfl, ?_⟩
      exact grownBy_old HGG.out (grownBy_setRow _ _ _) (by omega)

end Go.Proofs.Ytlnmglddialhjaa
