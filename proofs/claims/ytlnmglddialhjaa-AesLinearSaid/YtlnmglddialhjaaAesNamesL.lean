/- The law AesNames. -/
import Derived.Test.YtlnmglddialhjaaAesWhole
import Derived.Test.YtlnmglddialhjaaAesField
namespace Go.Proofs.Ytlnmglddialhjaa
open Go.RowKit

set_option maxRecDepth 100000 in
set_option maxHeartbeats 1000000 in
theorem counted16_n (w : World) : Calls Try.prog 44 #[.int .u8 16] w fun e w' => e = .returned (aggB (cnt 16)) ∧ w.grownBy w' none := by
  have hml := cnt_len 16
  have hme : cnt 16 = iterU (cnF 16) z16 16 := rfl
  obtain ⟨m, hm⟩ : ∃ m, m = cnt 16 := ⟨_, rfl⟩
  rw [← hm] at hml hme ⊢
  have HME := Lib.hid hme
  clear hme hm
  unfold aggB
  obtain ⟨hr, hs, hg⟩ := two w z16 z16 25 25
  have HR := Lib.hid hr
  have HS := Lib.hid hs
  have HG := Lib.hid hg
  clear hr hg hs
  go_enter Try.func44, Try.ntmps44
  go_wp2_with fail
  go_loopw [4] (fun vi wr => ∃ k : Nat, k ≤ 16 ∧ vi = .int .i64 k ∧ Blk wr w.heap.size 25 z16 ∧ Blk wr (w.heap.size + 1) 25 (iterU (cnF 16) z16 k) ∧ w.grownBy wr none) (fun vi _ => 16 - (intOf vi).toNat)
  case atStart => exact ⟨0, by omega, rfl, HR.out, HS.out, HG.out⟩
  case round =>
    obtain ⟨k, hk, rfl, hr, hs, hg⟩ := hrel
    have HRR := Lib.hid hr
    have HGG := Lib.hid hg
    have hlen : (iterU (cnF 16) z16 k).length = 16 := iterU_len (cnF_len 16) k
    have hcell := hs.cell 16 hlen
    have hfree := hs.free
    have HSS := Lib.hid hs
    clear hr hg hs hlen
    by_cases hlt : k < 16
    · have hcj := hcell k hlt
      have hset := HSS.out.set k (UInt8.ofNat (k * 16))
      have he : iterU (cnF 16) z16 (k + 1) = (iterU (cnF 16) z16 k).set k (UInt8.ofNat (k * 16)) := rfl
      rw [← he] at hset
      have hx : ((UInt8.ofNat (k * 16)).toNat : Int) = ((k * 16 : Nat) : Int) := by rw [ofNat_u8 (by omega)]
      obtain ⟨v, hv⟩ : ∃ v : Value, v = .int .u8 ((UInt8.ofNat (k * 16)).toNat : Int) := ⟨_, rfl⟩
      rw [← hv] at hset
      have HV := Lib.hid (show v = .int .u8 ((k * 16 : Nat) : Int) from by rw [hv, hx])
      obtain ⟨u0, hu0⟩ : ∃ u0, _ = some u0 := ⟨_, hcj⟩
      have HSET := Lib.hid hset
      clear hset HSS hcell hcj he hx hv
      go_wp2_with fail
      go_roundw
      case rel =>
        have hs2 := HSET.out
        rw [HV.out] at hs2
        exact ⟨k + 1, by omega, by go_num, HRR.out.other (by omega), by first | exact hs2 | simpa using hs2, grownBy_old HGG.out (grownBy_setCell _ _ _ _) (by omega)⟩
      case measure => simp [intOf]; omega
    · obtain rfl : k = 16 := by omega
      clear hcell hfree
      have hs := HSS.out
      rw [← HME.out] at hs
      have HS2 := Lib.hid hs
      clear hs HSS
      go_wp2_with (first | (refine wpList_load_row rfl 25 _ rfl (w.heap.size + 1) rfl 25 (cellsB m) (0, 0) _ HS2.out Try.underlying25 rfl (by rw [size_a16, cellsB_size, hml]) ?_) | (refine wpList_store_row rfl 25 _ _ rfl w.heap.size (cellsB m) rfl rfl 25 _ HRR.out (by rw [size_a16, cellsB_size, hml]) (by rw [cellsB_size, cellsB_size, hml]; rfl) (cellsB_one _) ?_))
      refine bodyPost_ret (v := .agg (cellsB m)) (results_cell_row rfl _ _ w.heap.size 25 (cellsB m) (0, 0) _ rfl (setRow_heap _ _ _ _ _ _ HRR.out) Try.underlying25 rfl (by rw [size_a16, cellsB_size, hml])) rfl ⟨rfl, ?_⟩
      exact grownBy_old HGG.out (grownBy_setRow _ _ _) (by omega)

theorem key_info : ∃ i, Try.prog.info? 26 = some i ∧ i.zero = some (.agg (cellsB z16)) ∧ i.size = 16 := ⟨(Try.prog.info? 26).getD default, by kernel_rfl, by kernel_rfl, by kernel_rfl⟩
theorem invV {x : Int} {a r : UInt8} (w : World) (hx : (a.toNat : Int) = x) (hr : ainv a = r) : Calls Try.prog 16 #[.int .u8 x] w fun e w' => e = .returned (.int .u8 (r.toNat : Int)) ∧ w = w' := by
  rw [← hr]; exact inverse_i x a w hx
section
variable {P : Program}
theorem run_neq_op (w : World) (ev : Operand → Value) {o : Oper} {t ty : TypeId} (hgu : P.eqGuardType P.depth t = false) {x y : Operand} (ho : o.op = .binOp .neq t x y ty) (xs ys : Array Value) (hx : ev x = .agg xs) (hy : ev y = .agg ys) {v : Value} (h : (binOp .neq t (.agg xs) (.agg ys)).run P w = .ok v w) : (execOp ev o).run P w = .ok (.value v) w := by
  unfold execOp
  simp [ho, hx, hy, run_eqGuard_agg w .neq t x y xs ys hgu, h]
end
def nmM0 : List UInt8 := [219, 0, 0, 0, 19, 0, 0, 0, 83, 0, 0, 0, 69, 0, 0, 0]
def nmM1 : List UInt8 := [142, 0, 0, 0, 77, 0, 0, 0, 161, 0, 0, 0, 188, 0, 0, 0]
def nmK0 : List UInt8 := [43, 126, 21, 22, 40, 174, 210, 166, 171, 247, 21, 136, 9, 207, 79, 60]
def nmK1 : List UInt8 := [160, 250, 254, 23, 136, 84, 44, 177, 35, 163, 57, 57, 42, 108, 118, 5]
def nmY1 : List UInt8 := [137, 216, 16, 232, 133, 90, 206, 104, 45, 24, 67, 216, 203, 18, 143, 228]
theorem nm_mix : mixL [2, 3, 1, 1] nmM0 = nmM1 := by decide +kernel
theorem nm_key : keyAt (keysL nmK0) 1 = nmK1 := by decide +kernel
theorem nm_e0 : encS (keysL (cnt 1)) (cnt 17) 0 = cnt 16 := by decide +kernel
theorem nm_e1 : encS (keysL (cnt 1)) (cnt 17) 1 = nmY1 := by decide +kernel
theorem nm_sp : (trL (cnt 1)).getD 6 0 = 9 := by decide +kernel

set_option maxRecDepth 100000 in
set_option maxHeartbeats 8000000 in
theorem names_walk (w : World) : Calls Try.prog 10 #[] w fun e w' => e = .returned (.bool true) ∧ w.grownBy w' none := by
  have hmB : Try.prog.eqGuardType Try.prog.depth 27 = false := by kernel_rfl
  have hmS : Try.prog.eqGuardType Try.prog.depth 33 = false := by kernel_rfl
  obtain ⟨ib, hib, hibz, hibs⟩ := block_info
  have IB := Lib.hid hib
  have IBZ := Lib.hid hibz
  have IBS := Lib.hid hibs
  obtain ⟨is, his, hisz, hiss⟩ := state_info
  have IS := Lib.hid his
  have ISZ := Lib.hid hisz
  have ISS := Lib.hid hiss
  obtain ⟨ik, hik, hikz, hiks⟩ := keysT_info
  have IK := Lib.hid hik
  have IKZ := Lib.hid hikz
  have IKS := Lib.hid hiks
  obtain ⟨iy, hiy, hiyz, hiys⟩ := key_info
  have IY := Lib.hid hiy
  have IYZ := Lib.hid hiyz
  have IYS := Lib.hid hiys
  clear hib hibz hibs his hisz hiss hik hikz hiks hiy hiyz hiys
  have c1 := fun w1 : World => counted1_n w1
  have c16 := fun w1 : World => counted16_n w1
  have c17 := fun w1 : World => counted17_n w1
  have l1 := cnt_len 1
  have l16 := cnt_len 16
  have l17 := cnt_len 17
  have hsp := fun w => spread_n (cnt 1) l1 w
  have hspl := trL_len l1
  have hs6 := nm_sp
  have hmx := fun w => mix_n nmM0 rfl w
  rw [nm_mix] at hmx
  have hsc := fun w => scheduleAll_n nmK0 rfl w
  have hkl := keysL_len nmK0
  have hk1 := nm_key
  have hb0 := fun w => behindIn_n (cnt 1) (cnt 17) 0 l1 l17 (by omega) w
  have hb1 := fun w => behindIn_n (cnt 1) (cnt 17) 1 l1 l17 (by omega) w
  rw [nm_e0] at hb0
  rw [nm_e1] at hb1
  have hb11 := fun w => behindOut_n (cnt 1) (cnt 17) 11 (by omega) w
  have hbm := fun w => behindOut_n (cnt 1) (cnt 17) (-1) (by omega) w
  have hqS : ∀ w1, (binOp .neq 33 (.agg (cellsB nmM1)) (.agg #[.int .u8 142, .int .u8 0, .int .u8 0, .int .u8 0, .int .u8 77, .int .u8 0, .int .u8 0, .int .u8 0, .int .u8 161, .int .u8 0, .int .u8 0, .int .u8 0, .int .u8 188, .int .u8 0, .int .u8 0, .int .u8 0])).run Try.prog w1 = .ok (.bool false) w1 := fun w1 => nsame_state nmM1 rfl w1
  have hqK : ∀ w1, (binOp .neq 27 (.agg (nmK1.map bval).toArray) (.agg #[.int .u8 160, .int .u8 250, .int .u8 254, .int .u8 23, .int .u8 136, .int .u8 84, .int .u8 44, .int .u8 177, .int .u8 35, .int .u8 163, .int .u8 57, .int .u8 57, .int .u8 42, .int .u8 108, .int .u8 118, .int .u8 5])).run Try.prog w1 = .ok (.bool false) w1 := fun w1 => nsame_block nmK1 rfl w1
  have hqY : ∀ w1, (binOp .eql 27 (.agg (cellsB nmY1)) (.agg #[.int .u8 137, .int .u8 216, .int .u8 16, .int .u8 232, .int .u8 133, .int .u8 90, .int .u8 206, .int .u8 104, .int .u8 45, .int .u8 24, .int .u8 67, .int .u8 216, .int .u8 203, .int .u8 18, .int .u8 143, .int .u8 228])).run Try.prog w1 = .ok (.bool true) w1 := fun w1 => same_block nmY1 rfl w1
  have hq16 := fun w1 => nsame_block (cnt 16) l16 w1
  generalize cnt 1 = n1 at c1 l1 hsp hspl hs6 hb0 hb1 hb11 hbm
  generalize cnt 16 = n16 at c16 l16 hb0 hq16
  generalize cnt 17 = n17 at c17 l17 hb0 hb1 hb11 hbm
  generalize trL n1 = sp at hsp hspl hs6
  generalize keysL nmK0 = kk at hsc hkl hk1
  obtain ⟨m1, hm1⟩ : ∃ m, m = nmM1 := ⟨_, rfl⟩
  rw [← hm1] at hmx hqS
  obtain ⟨k1, hk1'⟩ : ∃ m, m = nmK1 := ⟨_, rfl⟩
  have k1l : k1.length = 16 := by rw [hk1']; rfl
  rw [← hk1'] at hk1 hqK
  obtain ⟨y1, hy1⟩ : ∃ m, m = nmY1 := ⟨_, rfl⟩
  have y1l : y1.length = 16 := by rw [hy1]; rfl
  rw [← hy1] at hb1 hqY
  clear hm1 hk1' hy1
  have hi2 : (Try.prog.info? 27).map (·.size) = some (k1.map bval).length := by rw [size_block, List.length_map, k1l]
  have C1 := Lib.hid c1
  have C16 := Lib.hid c16
  have C17 := Lib.hid c17
  have HSPR := Lib.hid hsp
  have HS6 := Lib.hid hs6
  have HMX := Lib.hid hmx
  have HSC := Lib.hid hsc
  have HKK1 := Lib.hid hk1
  have B0 := Lib.hid hb0
  have B1 := Lib.hid hb1
  have B11 := Lib.hid hb11
  have BM := Lib.hid hbm
  have HQ16 := Lib.hid hq16
  have HMB := Lib.hid hmB
  clear c1 c16 c17 hsp hs6 hmx hsc hk1 hb0 hb1 hb11 hbm hq16
  unfold aggB at C1 C16 C17 HSPR HMX HSC B0 B1 B11 BM
  have HG := Lib.hid (World.grownBy.refl w none)
  go_enter Try.func10, Try.ntmps10
  go_wp2_with fail
  refine (awake_n _).mono ?_
  rintro e w1 ⟨rfl, g⟩
  replace HG := Lib.hid (grownBy_trans HG.out g)
  clear g
  go_wp2_with fail
  refine (prodV (a := 87) (b := 131) (r := 193) _ rfl rfl (by decide)).mono ?_
  rintro e w' ⟨rfl, rfl⟩
  go_wp2_with fail
  refine (prodV (a := 87) (b := 19) (r := 254) _ rfl rfl (by decide)).mono ?_
  rintro e w' ⟨rfl, rfl⟩
  go_wp2_with fail
  refine (invV (a := 83) (r := 202) _ rfl (by decide +kernel)).mono ?_
  rintro e w' ⟨rfl, rfl⟩
  go_wp2_with fail
  refine (invV (a := 0) (r := 0) _ rfl (by decide +kernel)).mono ?_
  rintro e w' ⟨rfl, rfl⟩
  go_wp2_with fail
  refine (invV (a := 1) (r := 1) _ rfl (by decide +kernel)).mono ?_
  rintro e w' ⟨rfl, rfl⟩
  go_wp2_with fail
  refine (subV (a := 83) (r := 237) _ rfl (by decide +kernel)).mono ?_
  rintro e w' ⟨rfl, rfl⟩
  go_wp2_with fail
  refine (subV (a := 0) (r := 99) _ rfl (by decide +kernel)).mono ?_
  rintro e w' ⟨rfl, rfl⟩
  go_wp2_with fail
  refine (unsubV (a := 99) (r := 0) _ rfl (by decide +kernel)).mono ?_
  rintro e w' ⟨rfl, rfl⟩
  go_wp2_with fail
  refine (C1.out _).mono ?_
  rintro e w2 ⟨rfl, g⟩
  replace HG := Lib.hid (grownBy_trans HG.out g)
  clear g
  go_wp2_with fail
  refine (HSPR.out _).mono ?_
  rintro e w3 ⟨rfl, g⟩
  replace HG := Lib.hid (grownBy_trans HG.out g)
  clear g
  have HG3 := Lib.hid HG.out
  go_wp2_with (first | (refine wpList_fresh rfl rfl rfl rfl rfl IS.out ISZ.out (by rw [ISS.out, cells_agg, cellsB_size]; rfl) (cellsB sp) rfl rfl (by rw [cells_agg, cellsB_size, cellsB_size, hspl]; rfl) (cellsB_one _) ?_; intro w4 hsn g hr; clear hsn; replace HG := Lib.hid (grownBy_trans HG.out g); have Hs := Lib.hid (show Blk w4 w3.heap.size 33 sp from hr); have h6 := Hs.out.cell 16 hspl 6 (by omega); rw [HS6.out] at h6; have h6b : w4.cell? ⟨w3.heap.size, 6, none⟩ = some (.int .u8 9) := h6; clear g hr h6) | (refine wpList_putrow rfl rfl w3.heap.size rfl (cellsB nmM0) rfl Hs.out (by rw [size_state, cellsB_size]; rfl) (by rw [cellsB_size, cellsB_size, hspl]; rfl) (cellsB_one _) ?_; intro w5 gP rP; replace HG := Lib.hid (grownBy_old HG.out gP HG3.out.size); have Ht := Lib.hid (show Blk w5 w3.heap.size 33 nmM0 from rP); clear gP rP Hs) | (refine wpList_load_rowW (by rfl) 33 _ rfl (w3.heap.size) rfl 33 (cellsB nmM0) (0, 0) _ Ht.out Try.underlying33 rfl (by rw [size_state, cellsB_size, show nmM0.length = 16 from rfl]) ?_))
  clear h6b
  refine (HMX.out _).mono ?_
  rintro e w6 ⟨rfl, g⟩
  replace HG := Lib.hid (grownBy_trans HG.out g)
  clear g
  go_wp2_with fail
  refine (HSC.out _).mono ?_
  rintro e w7 ⟨rfl, g⟩
  replace HG := Lib.hid (grownBy_trans HG.out g)
  clear g
  go_wp2_with (first | (refine wpList_fresh rfl rfl rfl rfl rfl IK.out IKZ.out (by rw [IKS.out, cells_agg, cellsB_size]; exact z176_len) (cellsB kk) rfl rfl (by rw [cells_agg, cellsB_size, cellsB_size, hkl, z176_len]) (cellsB_one _) ?_; intro w8 hsn g hr; clear hsn; replace HG := Lib.hid (grownBy_trans HG.out g); have Hkk := Lib.hid (show Blk w8 w7.heap.size 28 kk from hr); clear g hr) | (refine wpList_load_mid rfl 27 _ rfl w7.heap.size 16 rfl (k1.map bval) _ (by have h := Blk.key Hkk.out 1; rw [HKK1.out] at h; exact h) Try.underlying27 rfl hi2 ?_))
  refine (C1.out _).mono ?_
  rintro e w9 ⟨rfl, g⟩
  replace HG := Lib.hid (grownBy_trans HG.out g)
  replace Hkk := Lib.hid (Hkk.out.grown g (by simp))
  clear g
  go_wp2_with (first | (refine wpList_fresh rfl rfl rfl rfl rfl IY.out IYZ.out (by rw [IYS.out, cells_agg, cellsB_size]; rfl) (cellsB n1) rfl rfl (by rw [cells_agg, cellsB_size, cellsB_size, l1]; rfl) (cellsB_one _) ?_; intro w10 hsn g hr; clear hsn; replace HG := Lib.hid (grownBy_trans HG.out g); have Hk := Lib.hid (show Blk w10 w9.heap.size 26 n1 from hr); clear g hr))
  refine (C17.out _).mono ?_
  rintro e w11 ⟨rfl, g⟩
  replace HG := Lib.hid (grownBy_trans HG.out g)
  replace Hk := Lib.hid (Hk.out.grown g (by simp))
  clear g
  go_wp2_with (first | (refine wpList_fresh rfl rfl rfl rfl rfl IB.out IBZ.out (by rw [IBS.out, cells_agg, cellsB_size]; rfl) (cellsB n17) rfl rfl (by rw [cells_agg, cellsB_size, cellsB_size, l17]; rfl) (cellsB_one _) ?_; intro w12 hsn g hr; clear hsn; replace HG := Lib.hid (grownBy_trans HG.out g); replace Hk := Lib.hid (Hk.out.grown g (by simp)); have Hb := Lib.hid (show Blk w12 w11.heap.size 27 n17 from hr); clear g hr) | (refine wpList_load_rowW (by rfl) 26 _ rfl (w9.heap.size) rfl 26 (cellsB n1) (0, 0) _ Hk.out Try.underlying26 rfl (by rw [size_key, cellsB_size, l1]) ?_) | (refine wpList_load_rowW (by rfl) 27 _ rfl (w11.heap.size) rfl 27 (cellsB n17) (0, 0) _ Hb.out Try.underlying27 rfl (by rw [size_block, cellsB_size, l17]) ?_))
  refine (B0.out _).mono ?_
  rintro e w13 ⟨rfl, g⟩
  replace HG := Lib.hid (grownBy_trans HG.out g)
  replace Hk := Lib.hid (Hk.out.grown g (by simp))
  replace Hb := Lib.hid (Hb.out.grown g (by simp))
  clear g
  go_wp2_with (first | (refine wpList_fresh rfl rfl rfl rfl rfl IB.out IBZ.out (by rw [IBS.out, cells_agg, cellsB_size]; rfl) (cellsB n16) rfl rfl (by rw [cells_agg, cellsB_size, cellsB_size, l16]; rfl) (cellsB_one _) ?_; intro w14 hsn g hr; clear hsn; replace HG := Lib.hid (grownBy_trans HG.out g); replace Hk := Lib.hid (Hk.out.grown g (by simp)); replace Hb := Lib.hid (Hb.out.grown g (by simp)); have Hx := Lib.hid (show Blk w14 w13.heap.size 27 n16 from hr); clear g hr) | (refine wpList_load_rowW (by rfl) 26 _ rfl (w9.heap.size) rfl 26 (cellsB n1) (0, 0) _ Hk.out Try.underlying26 rfl (by rw [size_key, cellsB_size, l1]) ?_) | (refine wpList_load_rowW (by rfl) 27 _ rfl (w11.heap.size) rfl 27 (cellsB n17) (0, 0) _ Hb.out Try.underlying27 rfl (by rw [size_block, cellsB_size, l17]) ?_))
  refine (B1.out _).mono ?_
  rintro e w15 ⟨rfl, g⟩
  replace HG := Lib.hid (grownBy_trans HG.out g)
  replace Hk := Lib.hid (Hk.out.grown g (by simp))
  replace Hb := Lib.hid (Hb.out.grown g (by simp))
  replace Hx := Lib.hid (Hx.out.grown g (by simp))
  clear g
  go_wp2_with (first | (refine wpList_fresh rfl rfl rfl rfl rfl IB.out IBZ.out (by rw [IBS.out, cells_agg, cellsB_size]; rfl) (cellsB y1) rfl rfl (by rw [cells_agg, cellsB_size, cellsB_size, y1l]; rfl) (cellsB_one _) ?_; intro w16 hsn g hr; clear hsn; replace HG := Lib.hid (grownBy_trans HG.out g); replace Hk := Lib.hid (Hk.out.grown g (by simp)); replace Hb := Lib.hid (Hb.out.grown g (by simp)); replace Hx := Lib.hid (Hx.out.grown g (by simp)); have Hy := Lib.hid (show Blk w16 w15.heap.size 27 y1 from hr); clear g hr) | (refine wpList_load_rowW (by rfl) 26 _ rfl (w9.heap.size) rfl 26 (cellsB n1) (0, 0) _ Hk.out Try.underlying26 rfl (by rw [size_key, cellsB_size, l1]) ?_) | (refine wpList_load_rowW (by rfl) 27 _ rfl (w11.heap.size) rfl 27 (cellsB n17) (0, 0) _ Hb.out Try.underlying27 rfl (by rw [size_block, cellsB_size, l17]) ?_))
  refine (B11.out _).mono ?_
  rintro e w17 ⟨rfl, g⟩
  replace HG := Lib.hid (grownBy_trans HG.out g)
  replace Hk := Lib.hid (Hk.out.grown g (by simp))
  replace Hb := Lib.hid (Hb.out.grown g (by simp))
  replace Hx := Lib.hid (Hx.out.grown g (by simp))
  replace Hy := Lib.hid (Hy.out.grown g (by simp))
  clear g
  go_wp2_with (first | (refine wpList_fresh rfl rfl rfl rfl rfl IB.out IBZ.out (by rw [IBS.out, cells_agg, cellsB_size]; rfl) (cellsB z16) rfl rfl rfl (cellsB_one _) ?_; intro w18 hsn g hr; clear hsn; replace HG := Lib.hid (grownBy_trans HG.out g); replace Hk := Lib.hid (Hk.out.grown g (by simp)); replace Hb := Lib.hid (Hb.out.grown g (by simp)); replace Hx := Lib.hid (Hx.out.grown g (by simp)); replace Hy := Lib.hid (Hy.out.grown g (by simp)); have Hp := Lib.hid (show Blk w18 w17.heap.size 27 z16 from hr); clear g hr) | (refine wpList_load_rowW (by rfl) 26 _ rfl (w9.heap.size) rfl 26 (cellsB n1) (0, 0) _ Hk.out Try.underlying26 rfl (by rw [size_key, cellsB_size, l1]) ?_) | (refine wpList_load_rowW (by rfl) 27 _ rfl (w11.heap.size) rfl 27 (cellsB n17) (0, 0) _ Hb.out Try.underlying27 rfl (by rw [size_block, cellsB_size, l17]) ?_))
  refine (BM.out _).mono ?_
  rintro e w19 ⟨rfl, g⟩
  replace HG := Lib.hid (grownBy_trans HG.out g)
  replace Hk := Lib.hid (Hk.out.grown g (by simp))
  replace Hb := Lib.hid (Hb.out.grown g (by simp))
  replace Hx := Lib.hid (Hx.out.grown g (by simp))
  replace Hy := Lib.hid (Hy.out.grown g (by simp))
  replace Hp := Lib.hid (Hp.out.grown g (by simp))
  clear g
  go_upto_region 20 with (first | (refine wpList_fresh rfl rfl rfl rfl rfl IB.out IBZ.out (by rw [IBS.out, cells_agg, cellsB_size]; rfl) (cellsB z16) rfl rfl rfl (cellsB_one _) ?_; intro w20 hsn g hr; clear hsn; replace HG := Lib.hid (grownBy_trans HG.out g); replace Hk := Lib.hid (Hk.out.grown g (by simp)); replace Hb := Lib.hid (Hb.out.grown g (by simp)); replace Hx := Lib.hid (Hx.out.grown g (by simp)); replace Hy := Lib.hid (Hy.out.grown g (by simp)); replace Hp := Lib.hid (Hp.out.grown g (by simp)); have Hq := Lib.hid (show Blk w20 w19.heap.size 27 z16 from hr); clear g hr))
  have HKK : Hid (∀ u v : World, (w.grownBy u none ∧ Blk u w13.heap.size 27 n16 ∧ Blk u w15.heap.size 27 y1) → u.grownBy v none → (w.grownBy v none ∧ Blk v w13.heap.size 27 n16 ∧ Blk v w15.heap.size 27 y1)) :=
    Lib.hid (fun u v h hg => ⟨grownBy_trans h.1 hg, h.2.1.grown hg (by simp), h.2.2.grown hg (by simp)⟩)
  refine wp_regionS (fun u => w.grownBy u none ∧ Blk u w13.heap.size 27 n16 ∧ Blk u w15.heap.size 27 y1) (by kernel_rfl) (HKK.out _ _ ⟨HG.out, Hx.out, Hy.out⟩ (grownBy_drewN w20 1 none)) ?_
  refine wpS_take 0 (v := .int .i64 0) (oi := { dst := some 98, op := Op.move (Operand.tmp 6), type := 40, pos := "outright.go:55", after := #[], guard := none }) rfl (by kernel_rfl) (by kernel_rfl) (by kernel_rfl) (fun _ _ _ h => h) (YS.val (by rfl) (fun _ _ => rfl)) ?_
  simp only [Act.put, List.setIfInBounds_toArray, List.set_cons_zero, List.set_cons_succ]
  refine wpS_take 1 (v := .bool false) (oi := { dst := some 99, op := Op.binOp BinOp.neq 40 (Operand.tmp 98) (Operand.const (Value.int IntKind.i64 0)) 40, type := 4, pos := "outright.go:55", after := #[{ on := 0, ground := Ground.data }], guard := none }) rfl (by kernel_rfl) (by kernel_rfl) (by kernel_rfl) (fun _ _ _ h => h) (YS.val (by rfl) (fun _ _ => by go_simp)) ?_
  simp only [Act.put, List.setIfInBounds_toArray, List.set_cons_zero, List.set_cons_succ]
  refine wpS_take 2 (v := .bool false) (oi := { dst := some 100, op := Op.move (Operand.tmp 99), type := 4, pos := "outright.go:55", after := #[{ on := 1, ground := Ground.data }], guard := none }) rfl (by kernel_rfl) (by kernel_rfl) (by kernel_rfl) (fun _ _ _ h => h) (YS.val (by rfl) (fun _ _ => rfl)) ?_
  simp only [Act.put, List.setIfInBounds_toArray, List.set_cons_zero, List.set_cons_succ]
  refine wpS_take 3 (v := .int .i64 0) (oi := { dst := some 101, op := Op.move (Operand.tmp 8), type := 40, pos := "outright.go:55", after := #[{ on := 2, ground := Ground.guard }], guard := some (2, false) }) rfl (by kernel_rfl) (by kernel_rfl) (by kernel_rfl) (fun _ _ _ h => h) (YS.val (by rfl) (fun _ _ => rfl)) ?_
  simp only [Act.put, List.setIfInBounds_toArray, List.set_cons_zero, List.set_cons_succ]
  refine wpS_take 4 (v := .bool false) (oi := { dst := some 102, op := Op.binOp BinOp.neq 40 (Operand.tmp 101) (Operand.const (Value.int IntKind.i64 0)) 40, type := 4, pos := "outright.go:55", after := #[{ on := 3, ground := Ground.data }, { on := 2, ground := Ground.guard }], guard := some (2, false) }) rfl (by kernel_rfl) (by kernel_rfl) (by kernel_rfl) (fun _ _ _ h => h) (YS.val (by rfl) (fun _ _ => by go_simp)) ?_
  simp only [Act.put, List.setIfInBounds_toArray, List.set_cons_zero, List.set_cons_succ]
  refine wpS_take 5 (v := .bool false) (oi := { dst := some 103, op := Op.pick (Operand.tmp 100) (Operand.const (Value.bool true)) (Operand.tmp 102), type := 4, pos := "outright.go:55", after := #[{ on := 2, ground := Ground.data }, { on := 4, ground := Ground.data }], guard := none }) rfl (by kernel_rfl) (by kernel_rfl) (by kernel_rfl) (fun _ _ _ h => h) (YS.val (by rfl) (fun _ _ => rfl)) ?_
  simp only [Act.put, List.setIfInBounds_toArray, List.set_cons_zero, List.set_cons_succ]
  refine wpS_take 6 (v := .bool false) (oi := { dst := some 104, op := Op.move (Operand.tmp 103), type := 4, pos := "outright.go:55", after := #[{ on := 5, ground := Ground.data }, { on := 2, ground := Ground.chain }], guard := none }) rfl (by kernel_rfl) (by kernel_rfl) (by kernel_rfl) (fun _ _ _ h => h) (YS.val (by rfl) (fun _ _ => rfl)) ?_
  simp only [Act.put, List.setIfInBounds_toArray, List.set_cons_zero, List.set_cons_succ]
  refine wpS_take 7 (v := .int .i64 30) (oi := { dst := some 105, op := Op.move (Operand.tmp 10), type := 40, pos := "outright.go:55", after := #[{ on := 6, ground := Ground.guard }], guard := some (6, false) }) rfl (by kernel_rfl) (by kernel_rfl) (by kernel_rfl) (fun _ _ _ h => h) (YS.val (by rfl) (fun _ _ => rfl)) ?_
  simp only [Act.put, List.setIfInBounds_toArray, List.set_cons_zero, List.set_cons_succ]
  refine wpS_take 8 (v := .bool false) (oi := { dst := some 106, op := Op.binOp BinOp.neq 40 (Operand.tmp 105) (Operand.const (Value.int IntKind.i64 30)) 40, type := 4, pos := "outright.go:55", after := #[{ on := 7, ground := Ground.data }, { on := 6, ground := Ground.guard }], guard := some (6, false) }) rfl (by kernel_rfl) (by kernel_rfl) (by kernel_rfl) (fun _ _ _ h => h) (YS.val (by rfl) (fun _ _ => by go_simp)) ?_
  simp only [Act.put, List.setIfInBounds_toArray, List.set_cons_zero, List.set_cons_succ]
  refine wpS_take 9 (v := .bool false) (oi := { dst := some 107, op := Op.pick (Operand.tmp 104) (Operand.const (Value.bool true)) (Operand.tmp 106), type := 4, pos := "outright.go:55", after := #[{ on := 6, ground := Ground.data }, { on := 8, ground := Ground.data }], guard := none }) rfl (by kernel_rfl) (by kernel_rfl) (by kernel_rfl) (fun _ _ _ h => h) (YS.val (by rfl) (fun _ _ => rfl)) ?_
  simp only [Act.put, List.setIfInBounds_toArray, List.set_cons_zero, List.set_cons_succ]
  refine wpS_take 10 (v := .bool false) (oi := { dst := some 108, op := Op.move (Operand.tmp 107), type := 4, pos := "outright.go:55", after := #[{ on := 9, ground := Ground.data }, { on := 6, ground := Ground.chain }], guard := none }) rfl (by kernel_rfl) (by kernel_rfl) (by kernel_rfl) (fun _ _ _ h => h) (YS.val (by rfl) (fun _ _ => rfl)) ?_
  simp only [Act.put, List.setIfInBounds_toArray, List.set_cons_zero, List.set_cons_succ]
  refine wpS_take 11 (v := .int .i64 30) (oi := { dst := some 109, op := Op.move (Operand.tmp 12), type := 40, pos := "outright.go:55", after := #[{ on := 10, ground := Ground.guard }], guard := some (10, false) }) rfl (by kernel_rfl) (by kernel_rfl) (by kernel_rfl) (fun _ _ _ h => h) (YS.val (by rfl) (fun _ _ => rfl)) ?_
  simp only [Act.put, List.setIfInBounds_toArray, List.set_cons_zero, List.set_cons_succ]
  refine wpS_take 12 (v := .bool false) (oi := { dst := some 110, op := Op.binOp BinOp.neq 40 (Operand.tmp 109) (Operand.const (Value.int IntKind.i64 30)) 40, type := 4, pos := "outright.go:55", after := #[{ on := 11, ground := Ground.data }, { on := 10, ground := Ground.guard }], guard := some (10, false) }) rfl (by kernel_rfl) (by kernel_rfl) (by kernel_rfl) (fun _ _ _ h => h) (YS.val (by rfl) (fun _ _ => by go_simp)) ?_
  simp only [Act.put, List.setIfInBounds_toArray, List.set_cons_zero, List.set_cons_succ]
  refine wpS_take 13 (v := .bool false) (oi := { dst := some 111, op := Op.pick (Operand.tmp 108) (Operand.const (Value.bool true)) (Operand.tmp 110), type := 4, pos := "outright.go:55", after := #[{ on := 10, ground := Ground.data }, { on := 12, ground := Ground.data }], guard := none }) rfl (by kernel_rfl) (by kernel_rfl) (by kernel_rfl) (fun _ _ _ h => h) (YS.val (by rfl) (fun _ _ => rfl)) ?_
  simp only [Act.put, List.setIfInBounds_toArray, List.set_cons_zero, List.set_cons_succ]
  refine wpS_take 14 (v := .bool false) (oi := { dst := some 112, op := Op.move (Operand.tmp 111), type := 4, pos := "outright.go:55", after := #[{ on := 13, ground := Ground.data }, { on := 10, ground := Ground.chain }], guard := none }) rfl (by kernel_rfl) (by kernel_rfl) (by kernel_rfl) (fun _ _ _ h => h) (YS.val (by rfl) (fun _ _ => rfl)) ?_
  simp only [Act.put, List.setIfInBounds_toArray, List.set_cons_zero, List.set_cons_succ]
  refine wpS_take 15 (v := .agg (cellsB n16)) (oi := { dst := some 113, op := Op.load 27 (Operand.tmp 5), type := 27, pos := "outright.go:55", after := #[{ on := 14, ground := Ground.guard }], guard := some (14, false) }) rfl (by kernel_rfl) (by kernel_rfl) (by kernel_rfl) (fun _ _ _ h => h) (YS.val (by rfl) (fun u hS => run_load_op u _ 27 _ rfl (w13.heap.size) rfl 27 (cellsB n16) hS.2.1 Try.underlying27 rfl (by rw [size_block, cellsB_size, l16]))) ?_
  simp only [Act.put, List.setIfInBounds_toArray, List.set_cons_zero, List.set_cons_succ]
  refine wpS_take 16 (v := .agg (cellsB n16)) (oi := { dst := some 114, op := Op.call { callee := Callee.value (Operand.func 44), args := #[Operand.const (Value.int IntKind.u8 16)], argTypes := #[5] }, type := 25, pos := "outright.go:55", after := #[{ on := 14, ground := Ground.chain }, { on := 14, ground := Ground.guard }], guard := some (14, false) }) rfl (by kernel_rfl) (by kernel_rfl) (by kernel_rfl) (fun _ _ _ h => h) (YS.grow (f := 44) (args := #[.int .u8 16]) (by rfl) (fun w => by go_simp) HKK.out (fun w => C16.out w)) ?_
  simp only [Act.put, List.setIfInBounds_toArray, List.set_cons_zero, List.set_cons_succ]
  refine wpS_take 17 (v := .bool false) (oi := { dst := some 115, op := Op.binOp BinOp.neq 27 (Operand.tmp 113) (Operand.tmp 114) 27, type := 4, pos := "outright.go:55", after := #[{ on := 15, ground := Ground.data }, { on := 16, ground := Ground.data }, { on := 14, ground := Ground.guard }], guard := some (14, false) }) rfl (by kernel_rfl) (by kernel_rfl) (by kernel_rfl) (fun _ _ _ h => h) (YS.val (by rfl) (fun u _ => run_neq_op u _ HMB.out (x := .tmp 113) (y := .tmp 114) rfl (cellsB n16) (cellsB n16) rfl rfl (HQ16.out u))) ?_
  simp only [Act.put, List.setIfInBounds_toArray, List.set_cons_zero, List.set_cons_succ]
  refine wpS_take 18 (v := .bool false) (oi := { dst := some 116, op := Op.pick (Operand.tmp 112) (Operand.const (Value.bool true)) (Operand.tmp 115), type := 4, pos := "outright.go:55", after := #[{ on := 14, ground := Ground.data }, { on := 17, ground := Ground.data }], guard := none }) rfl (by kernel_rfl) (by kernel_rfl) (by kernel_rfl) (fun _ _ _ h => h) (YS.val (by rfl) (fun _ _ => rfl)) ?_
  simp only [Act.put, List.setIfInBounds_toArray, List.set_cons_zero, List.set_cons_succ]
  refine wpS_done (by kernel_rfl) (fun wz hw5 => ?_) _
  have HW5 := Lib.hid hw5.1
  have HY5 := Lib.hid hw5.2.2
  clear hw5
  go_wp2_with (first | (refine wpList_load_rowW (by rfl) 27 _ rfl (w15.heap.size) rfl 27 (cellsB y1) (0, 0) _ HY5.out Try.underlying27 rfl (by rw [size_block, cellsB_size, y1l]) ?_))
  refine bodyPost_ret (by simp [*, results, Try.results10, go_sem]; try rfl) rfl ?_
  exact ⟨rfl, HW5.out⟩

end Go.Proofs.Ytlnmglddialhjaa
