/- aes: the laws' both; the document's xor. -/
import Derived.Test.YtlnmglddialhjaaAesQuick
namespace Go.Proofs.Ytlnmglddialhjaa
open Go.RowKit

set_option maxRecDepth 100000 in
set_option maxHeartbeats 1000000 in
theorem refXor_n (a b : List UInt8) (ha : a.length = 16) (hb : b.length = 16) (w : World) : Calls Try.prog 61 #[aggB a, aggB b] w fun e w' => e = .returned (aggB (xorL a b)) ∧ w.grownBy w' none := by
  unfold aggB
  obtain ⟨hs, hbb, hr, hg⟩ := three w a b z16 27 27 27
  have HR := Lib.hid hr
  have HS := Lib.hid hs
  have HG := Lib.hid hg
  have HB := Lib.hid hbb
  clear hr hg hs hbb
  go_enter Try.func61, Try.ntmps61
  go_wp2_with fail
  go_loopw [5] (fun vi wr => ∃ k : Nat, k ≤ 16 ∧ vi = .int .i64 k ∧ Blk wr w.heap.size 27 (iterU (wiF b) a k) ∧ Blk wr (w.heap.size + 1) 27 b ∧ Blk wr (w.heap.size + 1 + 1) 27 z16 ∧ w.grownBy wr none) (fun vi _ => 16 - (intOf vi).toNat)
  case atStart => exact ⟨0, by omega, rfl, HS.out, HB.out, HR.out, HG.out⟩
  case round =>
    obtain ⟨k, hk, rfl, hs, hbb, hr, hg⟩ := hrel
    have HBB := Lib.hid hbb
    have HRR := Lib.hid hr
    have HGG := Lib.hid hg
    have hlen : (iterU (wiF b) a k).length = 16 := (iterU_len (wiF_len b) k).trans ha
    have hcell := hs.cell 16 hlen
    have hfree := hs.free
    have HSS := Lib.hid hs
    clear hr hg hs hlen hbb
    by_cases hlt : k < 16
    · have hci := HBB.out.cell 16 hb k hlt
      have hcj := hcell k hlt
      have hset := HSS.out.set k ((iterU (wiF b) a k).getD k 0 ^^^ b.getD k 0)
      have he : iterU (wiF b) a (k + 1) = (iterU (wiF b) a k).set k ((iterU (wiF b) a k).getD k 0 ^^^ b.getD k 0) := rfl
      obtain ⟨x, hx⟩ : ∃ x, x = (iterU (wiF b) a k).getD k 0 := ⟨_, rfl⟩
      obtain ⟨y, hy⟩ : ∃ y, y = b.getD k 0 := ⟨_, rfl⟩
      rw [← hx, ← hy] at hset he
      rw [← hx] at hcj
      rw [← hy] at hci
      rw [← he] at hset
      have hxy := xor_u8 x y
      have HSET := Lib.hid hset
      clear hset HSS hcell hx hy he
      go_wp2_with fail
      go_region
      go_wp2
      go_roundw
      case rel => exact ⟨k + 1, by omega, by go_num, HSET.out.dr, (HBB.out.other (by omega)).dr, (HRR.out.other (by omega)).dr, grownBy_d1 (grownBy_old HGG.out (grownBy_setCell _ _ _ _) (by omega))⟩
      case measure => simp [intOf]; omega
    · obtain rfl : k = 16 := by omega
      clear hcell hfree
      have hs := HSS.out
      rw [wi_end ha hb] at hs
      have HS2 := Lib.hid hs
      clear hs HSS
      go_wp2_with (first | (refine wpList_load_row rfl 27 _ rfl w.heap.size rfl 27 (cellsB (xorL a b)) (0, 0) _ HS2.out Try.underlying27 rfl (by rw [size_block, cellsB_size, xorL_len ha hb]) ?_) | (refine wpList_store_row rfl 27 _ _ rfl (w.heap.size + 1 + 1) (cellsB (xorL a b)) rfl rfl 27 _ HRR.out (by rw [size_block, cellsB_size, xorL_len ha hb]) (by rw [cellsB_size, cellsB_size, xorL_len ha hb]; rfl) (cellsB_one _) ?_))
      refine bodyPost_ret (v := .agg (cellsB (xorL a b))) (results_cell_row rfl _ _ (w.heap.size + 1 + 1) 27 (cellsB (xorL a b)) (0, 0) _ rfl (setRow_heap _ _ _ _ _ _ HRR.out) Try.underlying27 rfl (by rw [size_block, cellsB_size, xorL_len ha hb])) rfl ⟨rfl, ?_⟩
      exact grownBy_old HGG.out (grownBy_setRow _ _ _) (by omega)

def boF (t : List UInt8) (r c : Nat) (o : List UInt8) : List UInt8 := o.set (r * 4 + c) (o.getD (r * 4 + c) 0 ^^^ t.getD (r * 4 + c) 0)
theorem boF_len (t : List UInt8) : ∀ r c o, (boF t r c o).length = o.length := fun r c o => by simp [boF]
theorem bo_end {s t : List UInt8} (hs : s.length = 16) (ht : t.length = 16) : iter2 (boF t) s 4 = xorL s t := by
  obtain ⟨x0, x1, x2, x3, x4, x5, x6, x7, x8, x9, x10, x11, x12, x13, x14, x15, rfl⟩ := ex16 hs
  obtain ⟨y0, y1, y2, y3, y4, y5, y6, y7, y8, y9, y10, y11, y12, y13, y14, y15, rfl⟩ := ex16 ht
  simp [iter2, iterU, boF, xorL]

set_option maxRecDepth 100000 in
set_option maxHeartbeats 1000000 in
theorem both_n (s t : List UInt8) (hs : s.length = 16) (ht : t.length = 16) (w : World) : Calls Try.prog 43 #[aggB s, aggB t] w fun e w' => e = .returned (aggB (xorL s t)) ∧ w.grownBy w' none := by
  have hml := xorL_len hs ht
  have hend := bo_end hs ht
  obtain ⟨m, hm⟩ : ∃ m, m = xorL s t := ⟨_, rfl⟩
  rw [← hm] at hml hend ⊢
  have HEND := Lib.hid hend
  clear hm hend
  unfold aggB
  obtain ⟨hb, ht1, hr, hg⟩ := three w s t z16 33 33 33
  have HR := Lib.hid hr
  have HS := Lib.hid hb
  have HG := Lib.hid hg
  have HT := Lib.hid ht1
  clear hr hg ht1 hb
  go_enter Try.func43, Try.ntmps43
  go_wp2_with fail
  go_loopw [5] (fun vi wr => ∃ k : Nat, k ≤ 4 ∧ vi = .int .i64 k ∧ Blk wr w.heap.size 33 (iter2 (boF t) s k) ∧ Blk wr (w.heap.size + 1) 33 t ∧ Blk wr (w.heap.size + 1 + 1) 33 z16 ∧ w.grownBy wr none) (fun vi _ => 4 - (intOf vi).toNat)
  case atStart => exact ⟨0, by omega, rfl, HS.out, HT.out, HR.out, HG.out⟩
  case round =>
    obtain ⟨r, hk, rfl, hs1, ht1, hr, hg⟩ := hrel
    have HTT := Lib.hid ht1
    have HRR := Lib.hid hr
    have HGG := Lib.hid hg
    have HSS := Lib.hid hs1
    clear hr hg hs1 ht1
    by_cases hlt : r < 4
    · have hr4 : decide ((r : Int) < 4) = true := by simp; omega
      go_wp2_with fail
      go_loopw [6] (fun vi wr => ∃ k : Nat, k ≤ 4 ∧ vi = .int .i64 k ∧ Blk wr w.heap.size 33 (iterU (boF t r) (iter2 (boF t) s r) k) ∧ Blk wr (w.heap.size + 1) 33 t ∧ Blk wr (w.heap.size + 1 + 1) 33 z16 ∧ w.grownBy wr none) (fun vi _ => 4 - (intOf vi).toNat)
      case atStart => exact ⟨0, by omega, rfl, HSS.out, HTT.out, HRR.out, HGG.out⟩
      case round =>
        clear HTT HRR HGG HSS
        obtain ⟨c, hk, rfl, hs1, ht1, hr, hg⟩ := hrel
        have HTT := Lib.hid ht1
        have HRR := Lib.hid hr
        have HGG := Lib.hid hg
        have hlen : (iterU (boF t r) (iter2 (boF t) s r) c).length = 16 := (iterU_len (boF_len t r) c).trans ((iter2_len (boF_len t) r).trans hs)
        have hcell := hs1.cell 16 hlen
        have hfree := hs1.free
        have HSS := Lib.hid hs1
        clear hr hg hs1 ht1 hlen
        by_cases hlc : c < 4
        · have hci := HTT.out.cell 16 ht (r * 4 + c) (by omega)
          have hcj := hcell (r * 4 + c) (by omega)
          have hset := HSS.out.set (r * 4 + c) ((iterU (boF t r) (iter2 (boF t) s r) c).getD (r * 4 + c) 0 ^^^ t.getD (r * 4 + c) 0)
          have he : iterU (boF t r) (iter2 (boF t) s r) (c + 1) = (iterU (boF t r) (iter2 (boF t) s r) c).set (r * 4 + c) ((iterU (boF t r) (iter2 (boF t) s r) c).getD (r * 4 + c) 0 ^^^ t.getD (r * 4 + c) 0) := rfl
          obtain ⟨x, hx⟩ : ∃ x, x = (iterU (boF t r) (iter2 (boF t) s r) c).getD (r * 4 + c) 0 := ⟨_, rfl⟩
          obtain ⟨y, hy⟩ : ∃ y, y = t.getD (r * 4 + c) 0 := ⟨_, rfl⟩
          rw [← hx, ← hy] at hset he
          rw [← hx] at hcj
          rw [← hy] at hci
          rw [← he] at hset
          have hxy := xor_u8 x y
          have HSET := Lib.hid hset
          clear hset HSS hcell hx hy he
          go_wp2_with fail
          go_region
          go_wp2
          go_roundw
          case rel => exact ⟨c + 1, by omega, by go_num, HSET.out.dr, (HTT.out.other (by omega)).dr, (HRR.out.other (by omega)).dr, grownBy_d1 (grownBy_old HGG.out (grownBy_setCell _ _ _ _) (by omega))⟩
          case measure => simp [intOf]; omega
        · obtain rfl : c = 4 := by omega
          clear hcell hfree
          go_wp2_with fail
          go_roundw
          case rel => exact ⟨r + 1, by omega, by go_num, HSS.out, HTT.out, HRR.out, HGG.out⟩
          case measure => simp [intOf]; omega
    · obtain rfl : r = 4 := by omega
      have hs1 := HSS.out
      rw [HEND.out] at hs1
      have HS2 := Lib.hid hs1
      clear hs1 HSS
      go_wp2_with (first | (refine wpList_load_row rfl 33 _ rfl w.heap.size rfl 33 (cellsB m) (0, 0) _ HS2.out Try.underlying33 rfl (by rw [size_state, cellsB_size, hml]) ?_) | (refine wpList_store_row rfl 33 _ _ rfl (w.heap.size + 1 + 1) (cellsB m) rfl rfl 33 _ HRR.out (by rw [size_state, cellsB_size, hml]) (by rw [cellsB_size, cellsB_size, hml]; rfl) (cellsB_one _) ?_))
      refine bodyPost_ret (v := .agg (cellsB m)) (results_cell_row rfl _ _ (w.heap.size + 1 + 1) 33 (cellsB m) (0, 0) _ rfl (setRow_heap _ _ _ _ _ _ HRR.out) Try.underlying33 rfl (by rw [size_state, cellsB_size, hml])) rfl ⟨rfl, ?_⟩
      exact grownBy_old HGG.out (grownBy_setRow _ _ _) (by omega)

/-- what is mixed of a sum -/
theorem mix_xor {f s t : List UInt8} (hf : f.length = 4) (hs : s.length = 16) (ht : t.length = 16) : mixL f (xorL s t) = xorL (mixL f s) (mixL f t) := by
  obtain ⟨f0, f1, f2, f3, rfl⟩ := ex4 hf
  obtain ⟨x0, x1, x2, x3, x4, x5, x6, x7, x8, x9, x10, x11, x12, x13, x14, x15, rfl⟩ := ex16 hs
  obtain ⟨y0, y1, y2, y3, y4, y5, y6, y7, y8, y9, y10, y11, y12, y13, y14, y15, rfl⟩ := ex16 ht
  have h4 : ∀ a b c d e f g h : UInt8, (a ^^^ b) ^^^ (c ^^^ d) ^^^ (e ^^^ f) ^^^ (g ^^^ h) = (a ^^^ c ^^^ e ^^^ g) ^^^ (b ^^^ d ^^^ f ^^^ h) := by
    intro a b c d e f g h
    simp only [UInt8.xor_assoc, UInt8.xor_comm, xlc]
  simp only [xorL, List.zipWith_cons_cons, List.zipWith_nil_left, mixL, am_add_right, h4]
theorem sh_xor {s t : List UInt8} (hs : s.length = 16) (ht : t.length = 16) : shL (xorL s t) = xorL (shL s) (shL t) := by
  obtain ⟨x0, x1, x2, x3, x4, x5, x6, x7, x8, x9, x10, x11, x12, x13, x14, x15, rfl⟩ := ex16 hs
  obtain ⟨y0, y1, y2, y3, y4, y5, y6, y7, y8, y9, y10, y11, y12, y13, y14, y15, rfl⟩ := ex16 ht
  rfl

end Go.Proofs.Ytlnmglddialhjaa
