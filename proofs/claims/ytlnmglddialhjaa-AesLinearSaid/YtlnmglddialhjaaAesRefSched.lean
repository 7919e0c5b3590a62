/- aes: Schedule; the document's. -/
import Derived.Test.YtlnmglddialhjaaAesSched
namespace Go.Proofs.Ytlnmglddialhjaa
open Go.RowKit

def rkF (k : List UInt8) (i : Nat) (o : List UInt8) : List UInt8 := o.set (i / 4 * 4 + i % 4) (k.getD i 0)
theorem rkF_len (k : List UInt8) : ∀ i o, (rkF k i o).length = o.length := fun i o => by simp [rkF]
theorem ex16r {z : List UInt8} (h : 16 ≤ z.length) : ∃ z0 z1 z2 z3 z4 z5 z6 z7 z8 z9 z10 z11 z12 z13 z14 z15 r, z = z0 :: z1 :: z2 :: z3 :: z4 :: z5 :: z6 :: z7 :: z8 :: z9 :: z10 :: z11 :: z12 :: z13 :: z14 :: z15 :: r := by
  obtain ⟨z0, z1, z2, z3, z4, z5, z6, z7, z8, z9, z10, z11, z12, z13, z14, z15, e⟩ := ex16 (l := z.take 16) (by rw [List.length_take]; omega)
  refine ⟨z0, z1, z2, z3, z4, z5, z6, z7, z8, z9, z10, z11, z12, z13, z14, z15, z.drop 16, ?_⟩
  conv => lhs; rw [← List.take_append_drop 16 z, e]
  rfl
set_option maxHeartbeats 2000000 in
theorem rk_end {k z : List UInt8} (hk : k.length = 16) (hz : z.length = 176) : iterU (rkF k) z 16 = kw k z := by
  obtain ⟨x0, x1, x2, x3, x4, x5, x6, x7, x8, x9, x10, x11, x12, x13, x14, x15, rfl⟩ := ex16 hk
  obtain ⟨z0, z1, z2, z3, z4, z5, z6, z7, z8, z9, z10, z11, z12, z13, z14, z15, r, rfl⟩ := ex16r (z := z) (by omega)
  simp [iterU, rkF, kw, kwF, spl, at4]
def rcF (l : List UInt8) (i : Nat) (o : List UInt8) : List UInt8 := o.set (i / 16 * 16 + i % 16) (l.getD (i / 4 * 4 + i % 4) 0)
theorem rcF_len (l : List UInt8) : ∀ i o, (rcF l i o).length = o.length := fun i o => by simp [rcF]
theorem rc_some {l z : List UInt8} (hl : l.length = 176) (hz : z.length = 176) : ∀ i, i ≤ 176 → iterU (rcF l) z i = l.take i ++ z.drop i
  | 0, _ => by simp [iterU]
  | i + 1, h => by
    have ih := rc_some hl hz i (by omega)
    show rcF l i (iterU (rcF l) z i) = _
    rw [ih]
    unfold rcF
    rw [show i / 16 * 16 + i % 16 = i by omega, show i / 4 * 4 + i % 4 = i by omega]
    rw [List.take_succ_eq_append_getElem (show i < l.length by omega), List.drop_eq_getElem_cons (show i < z.length by omega)]
    have e : (l.take i).length = i := by rw [List.length_take]; omega
    have eg : l.getD i 0 = l[i] := by simp [List.getD, List.getElem?_eq_getElem (show i < l.length by omega)]
    rw [List.set_append_right _ _ (by omega), e, Nat.sub_self, List.set_cons_zero, eg, List.append_assoc]
    rfl
theorem rc_end {l z : List UInt8} (hl : l.length = 176) (hz : z.length = 176) : iterU (rcF l) z 176 = l := by
  rw [rc_some hl hz 176 (by omega), List.take_of_length_le (by omega), List.drop_of_length_le (by omega), List.append_nil]
theorem am_two (p : UInt8) : am p 2 = ax8' p := by
  have := all256 (p := fun p => am p 2 == ax8' p) (by decide +kernel) p
  simpa using this
theorem prod_two (p : UInt8) (w : World) : Calls Try.prog 15 #[.int .u8 (p.toNat : Int), .int .u8 2] w fun e w' => e = .returned (.int .u8 ((ax8' p).toNat : Nat)) ∧ w = w' := by
  rw [← am_two]
  exact refProd_i _ _ p 2 w rfl rfl

set_option maxRecDepth 100000 in
set_option maxHeartbeats 4000000 in
theorem refSchedule_n (k : List UInt8) (hk : k.length = 16) (w : World) :
    Calls Try.prog 23 #[aggB k] w fun e w' => e = .returned (aggB (keysL k)) ∧ w.grownBy w' none := by
  obtain ⟨kk, hkk⟩ : ∃ kk, kk = keysL k := ⟨_, rfl⟩
  obtain ⟨z, hz⟩ : ∃ z, z = z176 := ⟨_, rfl⟩
  have hzl : z.length = 176 := by rw [hz]; exact z176_len
  have e28 : Try.zeroCells28 = cellsB z := by rw [hz]; exact zero28
  have e68 : Try.zeroCells68 = cellsB z := by rw [hz]; exact zero68
  have hke : kk = (ks k z 44).1 := by rw [hkk, hz]; rfl
  rw [← hkk]
  have HKE := Lib.hid hke
  have E28 := Lib.hid e28
  unfold aggB
  obtain ⟨hb, hr, hs, hg⟩ := threeC w k z z (cellsB k) Try.zeroCells28 Try.zeroCells68 26 28 68 rfl e28 e68
  have HR := Lib.hid hr
  have HS := Lib.hid hs
  have HG := Lib.hid hg
  have HB := Lib.hid hb
  clear hr hg hs hb hkk hz hke e28 e68
  go_enter Try.func23, Try.ntmps23
  go_wp2_with fail
  go_loopw [4] (fun vi wr => ∃ i : Nat, i ≤ 16 ∧ vi = .int .i64 i ∧ Blk wr w.heap.size 26 k ∧ Blk wr (w.heap.size + 1) 28 z ∧ Blk wr (w.heap.size + 1 + 1) 68 (iterU (rkF k) z i) ∧ w.grownBy wr none) (fun vi _ => 16 - (intOf vi).toNat)
  case atStart => exact ⟨0, by omega, rfl, HB.out, HR.out, HS.out, HG.out⟩
  case round =>
    obtain ⟨i, hi, rfl, hb, hr, hs, hg⟩ := hrel
    have HBB := Lib.hid hb
    have HRR := Lib.hid hr
    have HGG := Lib.hid hg
    have HSS := Lib.hid hs
    have hlen : (iterU (rkF k) z i).length = 176 := (iterU_len (rkF_len k) i).trans hzl
    have hcell := hs.cell 176 hlen
    have hfree := hs.free
    clear hr hg hs hb hlen
    by_cases hlt : i < 16
    · have hci := HBB.out.cell 16 hk i hlt
      have hcj := hcell (i / 4 * 4 + i % 4) (by omega)
      have hset := HSS.out.set (i / 4 * 4 + i % 4) (k.getD i 0)
      have he : iterU (rkF k) z (i + 1) = (iterU (rkF k) z i).set (i / 4 * 4 + i % 4) (k.getD i 0) := rfl
      obtain ⟨u0, hu0⟩ : ∃ u0, _ = some u0 := ⟨_, hcj⟩
      obtain ⟨x, hx⟩ : ∃ x, x = k.getD i 0 := ⟨_, rfl⟩
      rw [← hx] at hset hci he
      rw [← he] at hset
      have HSET := Lib.hid hset
      clear hset HSS hcell hcj hx he
      go_wp2_with fail
      go_region
      go_wp2
      go_roundw
      case rel => exact ⟨i + 1, by omega, by go_num, (HBB.out.other (by omega)).dr, (HRR.out.other (by omega)).dr, HSET.out.dr, grownBy_d1 (grownBy_old HGG.out (grownBy_setCell _ _ _ _) (by omega))⟩
      case measure => simp [intOf]; omega
    · obtain rfl : i = 16 := by omega
      have e4 : ((16 : Nat) : Int) = 16 := rfl
      rw [e4]
      clear e4 hcell hfree
      go_wp2_with fail
      go_loopw [5, 6] (fun vp vi wr => ∃ i : Nat, 4 ≤ i ∧ i ≤ 44 ∧ vi = .int .i64 i ∧ vp = .int .u8 ((ks k z i).2.toNat : Int) ∧ Blk wr (w.heap.size + 1) 28 z ∧ Blk wr (w.heap.size + 1 + 1) 68 (ks k z i).1 ∧ w.grownBy wr none) (fun _ vi _ => 44 - (intOf vi).toNat)
      case atStart => exact ⟨4, by omega, by omega, rfl, by rw [ks_four2]; rfl, HRR.out, by rw [ks_four1, ← rk_end hk hzl]; exact HSS.out, HGG.out⟩
      case round =>
        clear HBB HRR HGG HSS hlt hi
        obtain ⟨i, hi4, hi, rfl, rfl, hr, hs, hg⟩ := hrel
        have HRR := Lib.hid hr
        have HGG := Lib.hid hg
        have HSS := Lib.hid hs
        clear hr hg hs
        by_cases hlt : i < 44
        · have hl := ks_len k z hzl i
          obtain ⟨l, hle⟩ : ∃ l, l = (ks k z i).1 := ⟨_, rfl⟩
          obtain ⟨p, hpe⟩ : ∃ p, p = (ks k z i).2 := ⟨_, rfl⟩
          have hs := HSS.out
          rw [← hle] at hs hl
          have hks1 : (ks k z (i + 1)).1 = iterU (inF i (ksT l p i)) l 4 := by rw [ks_succ k z hi4, hle, hpe]; rfl
          have hks2 : (ks k z (i + 1)).2 = if i % 4 = 0 then ax8' p else p := by rw [ks_succ k z hi4, hpe]; rfl
          rw [← hpe]
          obtain ⟨t, hte⟩ : ∃ t, t = ksT l p i := ⟨_, rfl⟩
          rw [← hte] at hks1
          have htl : t.length = 4 := by rw [hte]; exact ksT_len _ _ _
          have HK1 := Lib.hid hks1
          have HK2 := Lib.hid hks2
          have HTE := Lib.hid hte
          obtain ⟨m1, hm1⟩ : ∃ m, m = at4 l ((i - 1) * 4) := ⟨_, rfl⟩
          have hm1l : m1.length = 4 := by rw [hm1]; rfl
          have HM1 := Lib.hid hm1
          have HR4 := Lib.hid (show wr.rangeAt (w.heap.size + 1 + 1) ((i - 1) * 4) (m1.map bval) from by rw [hm1]; exact hs.at4 (by omega))
          clear hm1
          have hn := Blk.new wr 31 [0, 0, 0, 0]
          have gn := World.grownBy_alloc wr (.cells (cellsB [0, 0, 0, 0]) 31) none
          have hgs := HGG.out.size
          have hlt2 := HRR.out.lt
          have hlt3 := HSS.out.lt
          obtain ⟨W1, hW1⟩ : ∃ W, W = (wr.alloc (.cells #[.int .u8 0, .int .u8 0, .int .u8 0, .int .u8 0] 31)).setRow wr.heap.size (cellsB m1) := ⟨_, rfl⟩
          have HN := Lib.hid hn
          have HB1 := Lib.hid (show Blk W1 wr.heap.size 31 m1 from hW1 ▸ hn.row m1)
          have HR1 := Lib.hid (show Blk W1 (w.heap.size + 1) 28 z from hW1 ▸ (HRR.out.grown gn (by simp)).rowNe (cellsB m1) (show w.heap.size + 1 ≠ wr.heap.size by omega))
          have HS1 := Lib.hid (show Blk W1 (w.heap.size + 1 + 1) 68 l from hW1 ▸ (hs.grown gn (by simp)).rowNe (cellsB m1) (show w.heap.size + 1 + 1 ≠ wr.heap.size by omega))
          have HG1 := Lib.hid (show w.grownBy W1 none from hW1 ▸ grownBy_old (grownBy_trans HGG.out gn) (grownBy_setRow _ wr.heap.size (cellsB m1)) (by omega))
          clear hn gn hs hks1 hks2 hte hle hpe HSS HRR HGG
          by_cases h4 : i % 4 = 0
          · have e3 : (i : Int).tmod 4 = 0 := by rw [Int.tmod_eq_emod_of_nonneg (by omega)]; omega
            go_wp2_with (first | (refine wpList_load_mid rfl 31 _ rfl (w.heap.size + 1 + 1) ((i - 1) * 4) rfl (m1.map bval) _ HR4.out Try.underlying31 rfl (by rw [size_four', List.length_map, hm1l]) ?_) | (refine wpList_store_row rfl 31 _ _ rfl wr.heap.size (cellsB m1) rfl rfl 31 _ HN.out (by rw [size_four', cellsB_size, hm1l]) (by rw [cellsB_size, cellsB_size, hm1l]; rfl) (cellsB_one _) ?_))
            rw [← hW1]
            obtain ⟨x0, y0⟩ : ∃ x, x = m1.getD 0 0 := ⟨_, rfl⟩
            obtain ⟨x1, y1⟩ : ∃ x, x = m1.getD 1 0 := ⟨_, rfl⟩
            obtain ⟨x2, y2⟩ : ∃ x, x = m1.getD 2 0 := ⟨_, rfl⟩
            obtain ⟨x3, y3⟩ : ∃ x, x = m1.getD 3 0 := ⟨_, rfl⟩
            have ht' : t = [asub x1 ^^^ p, asub x2, asub x3, asub x0] := by
              rw [HTE.out, y0, y1, y2, y3, HM1.out]; unfold ksT; rw [if_pos h4]; rfl
            have HB3 := Lib.hid HB1.out.dr
            have HR3 := Lib.hid HR1.out.dr
            have HS3 := Lib.hid HS1.out.dr
            have HG3 := Lib.hid (grownBy_d1 HG1.out)
            clear HB1 HR1 HS1 HG1
            have hc := HB3.out.cell 4 hm1l
            have c0 := hc 0 (by decide)
            have c1 := hc 1 (by decide)
            have c2 := hc 2 (by decide)
            have c3 := hc 3 (by decide)
            rw [← y0] at c0
            rw [← y1] at c1
            rw [← y2] at c2
            rw [← y3] at c3
            have hx := xor_u8 (asub x1) p
            clear hc y0 y1 y2 y3
            refine wp_region_still_tail 15 (by kernel_rfl) (by kernel_rfl) ?_
            simp only [List.take_succ_cons, List.take_zero, List.drop_succ_cons, List.drop_zero]
            change wpStill _ _ W1.drew (fun a' => wpList _ _ _ _ a' W1.drew) _ _
            have hgsz : W1.heap.size = W1.drew.heap.size := rfl
            generalize W1.drew = W2 at *
            still_step
            still_step
            still_call ((refSub_i _ x1 _ rfl).mono (fun _ _ h => ⟨h.1, h.2.symm⟩))
            still_step
            still_step
            still_step
            still_step
            still_call ((refSub_i _ x2 _ rfl).mono (fun _ _ h => ⟨h.1, h.2.symm⟩))
            still_step
            still_step
            still_call ((refSub_i _ x3 _ rfl).mono (fun _ _ h => ⟨h.1, h.2.symm⟩))
            still_step
            still_step
            still_call ((refSub_i _ x0 _ rfl).mono (fun _ _ h => ⟨h.1, h.2.symm⟩))
            still_step
            refine wpStill_nil ?_
            have HT' := Lib.hid ht'
            clear c0 c1 c2 c3 hx ht'
            go_wp2_with (first | (refine wpList_store_row rfl 31 _ _ rfl wr.heap.size (cellsB t) rfl (by rw [HT'.out]; rfl) 31 _ HB3.out (by rw [size_four', cellsB_size, htl]) (by rw [cellsB_size, cellsB_size, htl, hm1l]) (cellsB_one _) ?_) | (go_at_call 15; refine (prod_two p _).mono ?_; rintro e w' ⟨rfl, rfl⟩))
            have HB2 := Lib.hid (HB3.out.row t)
            have HR2 := Lib.hid (HR3.out.rowNe (cellsB t) (show w.heap.size + 1 ≠ wr.heap.size by omega))
            have HS2 := Lib.hid (HS3.out.rowNe (cellsB t) (show w.heap.size + 1 + 1 ≠ wr.heap.size by omega))
            have HG2 := Lib.hid (grownBy_old HG3.out (grownBy_setRow _ wr.heap.size (cellsB t)) (by omega))
            clear HB3 HR3 HS3 HG3
            go_loopw [8] (fun vi wr2 => ∃ n : Nat, n ≤ 4 ∧ vi = .int .i64 n ∧ Blk wr2 (w.heap.size + 1) 28 z ∧ Blk wr2 (w.heap.size + 1 + 1) 68 (iterU (inF i t) l n) ∧ Blk wr2 wr.heap.size 31 t ∧ w.grownBy wr2 none) (fun vi _ => 4 - (intOf vi).toNat)
            case atStart => exact ⟨0, by omega, rfl, HR2.out, HS2.out, HB2.out, HG2.out⟩
            case round =>
              clear HB2 HR2 HS2 HG2
              obtain ⟨n, hn, rfl, hr, hs, hb, hg⟩ := hrel
              have HRR := Lib.hid hr
              have HGG := Lib.hid hg
              have hlen : (iterU (inF i t) l n).length = 176 := (iterU_len (inF_len i t) n).trans hl
              have hcell := hs.cell 176 hlen
              have hfree := hs.free
              have HSS := Lib.hid hs
              have HBB := Lib.hid hb
              clear hr hg hs hlen hb
              by_cases hn4 : n < 4
              · have hct := HBB.out.cell 4 htl n hn4
                have hci := hcell ((i - 4) * 4 + n) (by omega)
                have hcj := hcell (i * 4 + n) (by omega)
                have hset := HSS.out.set (i * 4 + n) ((iterU (inF i t) l n).getD ((i - 4) * 4 + n) 0 ^^^ t.getD n 0)
                have he : iterU (inF i t) l (n + 1) = (iterU (inF i t) l n).set (i * 4 + n) ((iterU (inF i t) l n).getD ((i - 4) * 4 + n) 0 ^^^ t.getD n 0) := rfl
                obtain ⟨x, hx⟩ : ∃ x, x = (iterU (inF i t) l n).getD ((i - 4) * 4 + n) 0 := ⟨_, rfl⟩
                obtain ⟨y, hy⟩ : ∃ y, y = t.getD n 0 := ⟨_, rfl⟩
                rw [← hx, ← hy] at hset he
                rw [← hx] at hci
                rw [← hy] at hct
                rw [← he] at hset
                obtain ⟨u0, hu0⟩ : ∃ u0, _ = some u0 := ⟨_, hcj⟩
                have hxy := xor_u8 x y
                have HSET := Lib.hid hset
                clear hset HSS hcell hx he hy
                go_wp2_with fail
                go_region
                go_wp2
                go_roundw
                case rel => exact ⟨n + 1, by omega, by go_num, (HRR.out.other (by omega)).dr, HSET.out.dr, (HBB.out.other (by omega)).dr, grownBy_d1 (grownBy_old HGG.out (grownBy_setCell _ _ _ _) (by omega))⟩
                case measure => simp [intOf]; omega
              · obtain rfl : n = 4 := by omega
                clear hcell hfree
                go_wp2_with fail
                go_roundw
                case rel => exact ⟨i + 1, by omega, by omega, by go_num, by rw [HK2.out, if_pos h4], HRR.out, by rw [HK1.out]; exact HSS.out, HGG.out⟩
                case measure => simp [intOf]; omega
          · have e3 : (i : Int).tmod 4 ≠ 0 := by rw [Int.tmod_eq_emod_of_nonneg (by omega)]; omega
            have e3b : ((i : Int).tmod 4 == 0) = false := by simpa using e3
            have e44 : decide ((i : Int) < 44) = true := by simp; omega
            go_wp2_with (first | (refine wpList_load_mid rfl 31 _ rfl (w.heap.size + 1 + 1) ((i - 1) * 4) rfl (m1.map bval) _ HR4.out Try.underlying31 rfl (by rw [size_four', List.length_map, hm1l]) ?_) | (refine wpList_store_row rfl 31 _ _ rfl wr.heap.size (cellsB m1) rfl rfl 31 _ HN.out (by rw [size_four', cellsB_size, hm1l]) (by rw [cellsB_size, cellsB_size, hm1l]; rfl) (cellsB_one _) ?_))
            rw [← hW1]
            obtain rfl : t = m1 := by rw [HTE.out, HM1.out]; unfold ksT; rw [if_neg h4]
            have HB2 := HB1
            have HR2 := HR1
            have HS2 := HS1
            have HG2 := HG1
            clear HB1 HR1 HS1 HG1
            go_loopw [8] (fun vi wr2 => ∃ n : Nat, n ≤ 4 ∧ vi = .int .i64 n ∧ Blk wr2 (w.heap.size + 1) 28 z ∧ Blk wr2 (w.heap.size + 1 + 1) 68 (iterU (inF i t) l n) ∧ Blk wr2 wr.heap.size 31 t ∧ w.grownBy wr2 none) (fun vi _ => 4 - (intOf vi).toNat)
            case atStart => exact ⟨0, by omega, rfl, HR2.out, HS2.out, HB2.out, HG2.out⟩
            case round =>
              clear HB2 HR2 HS2 HG2
              obtain ⟨n, hn, rfl, hr, hs, hb, hg⟩ := hrel
              have HRR := Lib.hid hr
              have HGG := Lib.hid hg
              have hlen : (iterU (inF i t) l n).length = 176 := (iterU_len (inF_len i t) n).trans hl
              have hcell := hs.cell 176 hlen
              have hfree := hs.free
              have HSS := Lib.hid hs
              have HBB := Lib.hid hb
              clear hr hg hs hlen hb
              by_cases hn4 : n < 4
              · have hct := HBB.out.cell 4 htl n hn4
                have hci := hcell ((i - 4) * 4 + n) (by omega)
                have hcj := hcell (i * 4 + n) (by omega)
                have hset := HSS.out.set (i * 4 + n) ((iterU (inF i t) l n).getD ((i - 4) * 4 + n) 0 ^^^ t.getD n 0)
                have he : iterU (inF i t) l (n + 1) = (iterU (inF i t) l n).set (i * 4 + n) ((iterU (inF i t) l n).getD ((i - 4) * 4 + n) 0 ^^^ t.getD n 0) := rfl
                obtain ⟨x, hx⟩ : ∃ x, x = (iterU (inF i t) l n).getD ((i - 4) * 4 + n) 0 := ⟨_, rfl⟩
                obtain ⟨y, hy⟩ : ∃ y, y = t.getD n 0 := ⟨_, rfl⟩
                rw [← hx, ← hy] at hset he
                rw [← hx] at hci
                rw [← hy] at hct
                rw [← he] at hset
                obtain ⟨u0, hu0⟩ : ∃ u0, _ = some u0 := ⟨_, hcj⟩
                have hxy := xor_u8 x y
                have HSET := Lib.hid hset
                clear hset HSS hcell hx he hy
                go_wp2_with fail
                go_region
                go_wp2
                go_roundw
                case rel => exact ⟨n + 1, by omega, by go_num, (HRR.out.other (by omega)).dr, HSET.out.dr, (HBB.out.other (by omega)).dr, grownBy_d1 (grownBy_old HGG.out (grownBy_setCell _ _ _ _) (by omega))⟩
                case measure => simp [intOf]; omega
              · obtain rfl : n = 4 := by omega
                clear hcell hfree
                go_wp2_with fail
                go_roundw
                case rel => exact ⟨i + 1, by omega, by omega, by go_num, by rw [HK2.out, if_neg h4], HRR.out, by rw [HK1.out]; exact HSS.out, HGG.out⟩
                case measure => simp [intOf]; omega
        · obtain rfl : i = 44 := by omega
          have e44 : ((44 : Nat) : Int) = 44 := rfl
          rw [e44]
          clear e44
          have hl : (ks k z 44).1.length = 176 := ks_len k z hzl 44
          have hke := HKE.out
          clear HKE
          have hs := HSS.out
          obtain ⟨l, hle⟩ : ∃ l, l = (ks k z 44).1 := ⟨_, rfl⟩
          obtain ⟨p, hpe⟩ : ∃ p, p = (ks k z 44).2 := ⟨_, rfl⟩
          rw [← hle] at hl hke hs
          rw [← hpe]
          clear hle hpe
          have HKE := Lib.hid hke
          have hn := Blk.new wr 28 z
          rw [← E28.out] at hn
          have gn := World.grownBy_alloc wr (.cells Try.zeroCells28 28) none
          have hlt2 := HRR.out.lt
          have hlt3 := hs.lt
          have HO := Lib.hid hn
          have HR1 := Lib.hid (HRR.out.grown gn (by simp))
          have HS1 := Lib.hid (hs.grown gn (by simp))
          have HG1 := Lib.hid (grownBy_trans HGG.out gn)
          clear hn gn hs hke HSS HRR HGG
          go_wp2_with fail
          obtain ⟨g0, hg0⟩ : ∃ q, q = wr.heap.size := ⟨_, rfl⟩
          rw [← hg0] at HO hlt2 hlt3 ⊢
          go_loopw [10] (fun vi wr2 => ∃ j : Nat, j ≤ 176 ∧ vi = .int .i64 j ∧ Blk wr2 (w.heap.size + 1) 28 z ∧ Blk wr2 (w.heap.size + 1 + 1) 68 l ∧ Blk wr2 g0 28 (iterU (rcF l) z j) ∧ w.grownBy wr2 none) (fun vi _ => 176 - (intOf vi).toNat)
          case atStart => exact ⟨0, by omega, rfl, HR1.out, HS1.out, HO.out, HG1.out⟩
          case round =>
            clear HR1 HO HG1 HS1 hg0
            obtain ⟨j, hj, rfl, hr, hw, hs, hg⟩ := hrel
            by_cases hlt4 : j < 176
            · have hlen : (iterU (rcF l) z j).length = 176 := (iterU_len (rcF_len l) j).trans hzl
              have hcell := hs.cell 176 hlen
              have hfree := hs.free
              have hci := hw.cell 176 hl (j / 4 * 4 + j % 4) (by omega)
              have hcj := hcell (j / 16 * 16 + j % 16) (by omega)
              have hset := hs.set (j / 16 * 16 + j % 16) (l.getD (j / 4 * 4 + j % 4) 0)
              have he : iterU (rcF l) z (j + 1) = (iterU (rcF l) z j).set (j / 16 * 16 + j % 16) (l.getD (j / 4 * 4 + j % 4) 0) := rfl
              obtain ⟨u0, hu0⟩ : ∃ u0, _ = some u0 := ⟨_, hcj⟩
              obtain ⟨x, hx⟩ : ∃ x, x = l.getD (j / 4 * 4 + j % 4) 0 := ⟨_, rfl⟩
              rw [← hx] at hset hci he
              rw [← he] at hset
              have HSET := Lib.hid hset
              have HRR := Lib.hid hr
              have HWW := Lib.hid hw
              have HGG := Lib.hid hg
              clear hset hs hr hw hg hcell hcj hx he hlen
              go_wp2_with fail
              go_region
              go_wp2
              go_roundw
              case rel => exact ⟨j + 1, by omega, by go_num, (HRR.out.other (by omega)).dr, (HWW.out.other (by omega)).dr, HSET.out.dr, grownBy_d1 (grownBy_old HGG.out (grownBy_setCell _ _ _ _) (by omega))⟩
              case measure => simp [intOf]; omega
            · obtain rfl : j = 176 := by omega
              have e44 : ((176 : Nat) : Int) = 176 := rfl
              rw [e44]
              clear e44
              have hke := HKE.out
              rw [rc_end hl hzl, ← hke] at hs
              have HO5 := Lib.hid hs
              have HR5 := Lib.hid hr
              have HG5 := Lib.hid hg
              have hkl : kk.length = 176 := by rw [hke]; exact hl
              clear hs hr hg hw
              go_wp2_with (first | (refine wpList_load_row rfl 28 _ rfl g0 rfl 28 (cellsB kk) (0, 0) _ HO5.out Try.underlying28 rfl (by rw [size_keys, cellsB_size, hkl]) ?_) | (refine wpList_store_row rfl 28 _ _ rfl (w.heap.size + 1) (cellsB kk) rfl rfl 28 _ HR5.out (by rw [size_keys, cellsB_size, hkl]) (by rw [cellsB_size, cellsB_size, hkl, hzl]) (cellsB_one _) ?_))
              refine bodyPost_ret (v := .agg (cellsB kk)) (results_cell_row rfl _ _ (w.heap.size + 1) 28 (cellsB kk) (0, 0) _ rfl (setRow_heap _ _ _ _ _ _ HR5.out) Try.underlying28 rfl (by rw [size_keys, cellsB_size, hkl])) rfl ⟨rfl, ?_⟩
              exact grownBy_old HG5.out (grownBy_setRow _ _ _) (by omega)

end Go.Proofs.Ytlnmglddialhjaa
