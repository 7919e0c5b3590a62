/- aes: the document's Encrypt and Decrypt. -/
import Derived.Test.YtlnmglddialhjaaAesDec
namespace Go.Proofs.Ytlnmglddialhjaa
open Go.RowKit

theorem RS.clo (w0 : World) (gb g6 g7 : Nat) (kk x : List UInt8) : Clo (RS w0 gb g6 g7 kk x) := fun _ _ h hg => h.grown hg
theorem RS.put {w0 w w' : World} {gb g6 g7 : Nat} {kk x y : List UInt8} (h : RS w0 gb g6 g7 kk x w) (hg : w.grownBy w' (some gb)) (hr : Row w' gb 27 (cellsB y)) (hd : w0.heap.size ≤ gb ∧ gb < g6 ∧ g6 < g7) : RS w0 gb g6 g7 kk y w' :=
  ⟨grownBy_old h.1 hg hd.1, hr, h.2.2.1.grown hg (by simp; omega), h.2.2.2.grown hg (by simp; omega)⟩

set_option maxRecDepth 100000 in
set_option maxHeartbeats 4000000 in
theorem refEncrypt_n (k b : List UInt8) (hkl : k.length = 16) (hb : b.length = 16) (w : World) :
    Calls Try.prog 49 #[aggB k, aggB b] w fun e w' => e = .returned (aggB (encS (keysL k) b 10)) ∧ w.grownBy w' none := by
  have hbe := fun w => refBehind_n k b 10 hkl hb (by omega) w
  have hyl := encS_len (keysL_len k) hb 10 (by omega)
  obtain ⟨y, hy⟩ : ∃ y, y = encS (keysL k) b 10 := ⟨_, rfl⟩
  rw [← hy] at hbe hyl ⊢
  have HBE := Lib.hid hbe
  clear hbe hy
  obtain ⟨ib, hib, hibz, hibs⟩ := block_info
  have IB := Lib.hid hib
  have IBZ := Lib.hid hibz
  clear hib hibz hibs
  unfold aggB at HBE ⊢
  go_enter Try.func49, Try.ntmps49
  go_wp2_with (first | (refine wpList_boxed (T := 26) rfl rfl (cellsB k) rfl ?_; intro wa hsa hga hra; have HSa := Lib.hid hsa; have HGa := Lib.hid hga; have HRa := Lib.hid (show Blk wa w.heap.size 26 k from hra); clear hsa hga hra) | (refine wpList_boxed (T := 27) rfl rfl (cellsB b) rfl ?_; intro wb hsb hgb hrb; have HSb := Lib.hid hsb; have HGb := Lib.hid (grownBy_trans HGa.out hgb); have HKb := Lib.hid (HRa.out.grown hgb (by simp)); have HRb := Lib.hid (show Blk wb wa.heap.size 27 b from hrb); clear hsb hgb hrb) | (refine wpList_made rfl rfl IB.out IBZ.out ?_; intro wc hsc hgc hrc; have HGc := Lib.hid (grownBy_trans HGb.out hgc); have HKc := Lib.hid (HKb.out.grown hgc (by simp)); have HBc := Lib.hid (HRb.out.grown hgc (by simp)); have HRc := Lib.hid (show Blk wc wb.heap.size 27 z16 from hrc); clear hsc hgc hrc) | (refine wpList_load_rowW (by rfl) 26 _ rfl (w.heap.size) rfl 26 (cellsB k) (0, 0) _ HKc.out Try.underlying26 rfl (by rw [size_key, cellsB_size, hkl]) ?_) | (refine wpList_load_rowW (by rfl) 27 _ rfl (wa.heap.size) rfl 27 (cellsB b) (0, 0) _ HBc.out Try.underlying27 rfl (by rw [size_block, cellsB_size, hb]) ?_))
  refine (HBE.out _).mono ?_
  rintro e w1 ⟨rfl, g⟩
  have HG1 := Lib.hid (grownBy_trans HGc.out g)
  have HR1 := Lib.hid (HRc.out.grown g (by simp))
  have hle : w.heap.size ≤ wb.heap.size := by have := HSa.out; have := HSb.out; omega
  clear g
  go_wp2_with (first | (refine wpList_store_row rfl 27 _ _ rfl wb.heap.size (cellsB y) rfl rfl 27 _ HR1.out (by rw [size_block, cellsB_size, hyl]) (by rw [cellsB_size, cellsB_size, hyl]; rfl) (cellsB_one _) ?_))
  refine bodyPost_ret (v := .agg (cellsB y)) (results_cell_row rfl _ _ wb.heap.size 27 (cellsB y) (0, 0) _ rfl (setRow_heap _ _ _ _ _ _ HR1.out) Try.underlying27 rfl (by rw [size_block, cellsB_size, hyl])) rfl ⟨rfl, ?_⟩
  exact grownBy_old HG1.out (grownBy_setRow _ _ _) hle

set_option maxRecDepth 100000 in
set_option maxHeartbeats 4000000 in
theorem refDecrypt_n (k b : List UInt8) (hkl : k.length = 16) (hb : b.length = 16) (w : World) :
    Calls Try.prog 47 #[aggB k, aggB b] w fun e w' => e = .returned (aggB (decS (keysL k) b)) ∧ w.grownBy w' none := by
  have hsched := fun w => refSchedule_n k hkl w
  have hk := keysL_len k
  obtain ⟨kk, hkk⟩ : ∃ kk, kk = keysL k := ⟨_, rfl⟩
  rw [← hkk] at hsched hk ⊢
  obtain ⟨ib, hib, hibz, hibs⟩ := block_info
  obtain ⟨is, his, hisz, hiss⟩ := state_info
  obtain ⟨ik, hik, hikz, hiks⟩ := keysT_info
  have IB := Lib.hid hib
  have IBZ := Lib.hid hibz
  have IS := Lib.hid his
  have ISZ := Lib.hid hisz
  have IK := Lib.hid hik
  have IKZ := Lib.hid hikz
  have IKS := Lib.hid hiks
  have HSCH := Lib.hid hsched
  clear hib hibz hibs his hisz hiss hik hikz hiks hsched hkk
  obtain ⟨D, hD⟩ : ∃ D : Nat → List UInt8, D = deS kk b := ⟨_, rfl⟩
  have hDl : ∀ n, (D n).length = 16 := fun n => by rw [hD]; exact deS_len hk hb n
  have hDs : ∀ n, D (n + 1) = deR kk (D n) (10 - n) := fun n => by rw [hD]; rfl
  have hD0 : D 0 = b := by rw [hD]; rfl
  have hfin : decS kk b = xorL (D 10) (keyAt kk 0) := by rw [hD]; rfl
  rw [hfin]
  have hxl0 := hDl 10
  obtain ⟨x0, hx0⟩ : ∃ x, x = D 10 := ⟨_, rfl⟩
  rw [← hx0] at hxl0 ⊢
  obtain ⟨k0, hk0⟩ : ∃ q, q = keyAt kk 0 := ⟨_, rfl⟩
  have hk0l : k0.length = 16 := by rw [hk0]; exact keyAt_len hk (by omega)
  rw [← hk0]
  have HX0 := Lib.hid hx0
  have HK0 := Lib.hid hk0
  obtain ⟨y0, hy0⟩ : ∃ q, q = xorL x0 k0 := ⟨_, rfl⟩
  have hy0l : y0.length = 16 := by rw [hy0]; exact xorL_len hxl0 hk0l
  have HW0 := Lib.hid (fun w1 : World => by have h := refXor_n x0 k0 hxl0 hk0l w1; rw [← hy0] at h; exact h)
  rw [← hy0]
  have hi20 : (Try.prog.info? 27).map (·.size) = some (k0.map bval).length := by rw [size_block, List.length_map, hk0l]
  clear hx0 hk0 hy0 hfin
  have HDL := Lib.hid hDl
  have HDS := Lib.hid hDs
  have HD0 := Lib.hid hD0
  clear hD hDl hDs hD0
  unfold aggB at HW0 HSCH ⊢
  go_enter Try.func47, Try.ntmps47
  go_wp2_with (first | (refine wpList_boxed (T := 26) rfl rfl (cellsB k) rfl ?_; intro wa hsa hga hra; have HSa := Lib.hid hsa; have HGa := Lib.hid hga; have HRa := Lib.hid (show Blk wa w.heap.size 26 k from hra); clear hsa hga hra) | (refine wpList_boxed (T := 27) rfl rfl (cellsB b) rfl ?_; intro wb hsb hgb hrb; have HSb := Lib.hid hsb; have HGb := Lib.hid (grownBy_trans HGa.out hgb); have HKb := Lib.hid (HRa.out.grown hgb (by simp)); have HRb := Lib.hid (show Blk wb wa.heap.size 27 b from hrb); clear hsb hgb hrb) | (refine wpList_made rfl rfl IB.out IBZ.out ?_; intro wc hsc hgc hrc; have HGc := Lib.hid (grownBy_trans HGb.out hgc); have HKc := Lib.hid (HKb.out.grown hgc (by simp)); have HBc := Lib.hid (HRb.out.grown hgc (by simp)); have HRc := Lib.hid (show Blk wc wb.heap.size 27 z16 from hrc); clear hsc hgc hrc) | (refine wpList_load_rowW (by rfl) 26 _ rfl (w.heap.size) rfl 26 (cellsB k) (0, 0) _ HKc.out Try.underlying26 rfl (by rw [size_key, cellsB_size, hkl]) ?_))
  refine (HSCH.out _).mono ?_
  rintro e w1 ⟨rfl, hg1⟩
  have HG1 := Lib.hid (grownBy_trans HGc.out hg1)
  have HB1 := Lib.hid (HBc.out.grown hg1 (by simp))
  have HR1 := Lib.hid (HRc.out.grown hg1 (by simp))
  have hd1 : w.heap.size ≤ wa.heap.size ∧ wa.heap.size < wb.heap.size ∧ wb.heap.size < w1.heap.size := by
    have h1 := HSa.out
    have h2 := HSb.out
    have h3 := HR1.out.lt
    omega
  have HDD := Lib.hid hd1
  clear hg1 hd1
  go_wp2_with (first | (refine wpList_fresh rfl rfl rfl rfl rfl IK.out IKZ.out (by rw [IKS.out, cells_agg, cellsB_size, z176_len]) (cellsB kk) rfl rfl (by rw [cells_agg, cellsB_size, cellsB_size, z176_len, hk]) (cellsB_one _) ?_; intro w2 hs2 hg2 hr2; clear hs2; have HS2 := Lib.hid (show RS w wa.heap.size wb.heap.size w1.heap.size kk b w2 from ⟨grownBy_trans HG1.out hg2, HB1.out.grown hg2 (by simp), HR1.out.grown hg2 (by simp), hr2⟩); clear hg2 hr2))
  have hS0 : RS w wa.heap.size wb.heap.size w1.heap.size kk (D 0) w2 := by rw [HD0.out]; exact HS2.out
  have HS0 := Lib.hid hS0
  clear hS0 HS2
  obtain ⟨gb, hgb⟩ : ∃ g, g = wa.heap.size := ⟨_, rfl⟩
  obtain ⟨g6, hg6⟩ : ∃ g, g = wb.heap.size := ⟨_, rfl⟩
  obtain ⟨g7, hg7⟩ : ∃ g, g = w1.heap.size := ⟨_, rfl⟩
  rw [← hgb, ← hg6, ← hg7] at HS0 HDD
  rw [← hgb, ← hg6, ← hg7]
  clear hgb hg6 hg7 HG1 HB1 HR1 HSCH
  go_loopw [6] (fun vi wr => ∃ j : Nat, j ≤ 10 ∧ vi = .int .i64 ((10 - j : Nat) : Int) ∧ RS w gb g6 g7 kk (D j) wr) (fun vi _ => (intOf vi).toNat)
  case atStart => exact ⟨0, by omega, rfl, HS0.out⟩
  case round =>
    clear HS0
    obtain ⟨j, hj, rfl, hS⟩ := hrel
    by_cases hlt : j < 10
    · obtain ⟨n, hn⟩ : ∃ n, n = 10 - j := ⟨_, rfl⟩
      rw [← hn]
      have hn1 : 1 ≤ n := by omega
      have hn10 : n ≤ 10 := by omega
      have hxl := HDL.out j
      have hyl := HDL.out (j + 1)
      have hYS := HDS.out j
      rw [← hn] at hYS
      obtain ⟨x, hx⟩ : ∃ x, x = D j := ⟨_, rfl⟩
      obtain ⟨y, hy⟩ : ∃ y, y = D (j + 1) := ⟨_, rfl⟩
      rw [← hx] at hxl hS hYS
      rw [← hy] at hyl hYS
      have HY := Lib.hid hy
      obtain ⟨kn, hkn⟩ : ∃ q, q = keyAt kk n := ⟨_, rfl⟩
      have hknl : kn.length = 16 := by rw [hkn]; exact keyAt_len hk hn10
      unfold deR at hYS
      rw [← hkn] at hYS
      have HSX := Lib.hid hS
      have HKN := Lib.hid hkn
      have n11 : (n : Int) < 11 := by omega
      have n0 : (1 : Int) ≤ (n : Int) := by omega
      have hi2' : (Try.prog.info? 27).map (·.size) = some (kn.map bval).length := by rw [size_block, List.length_map, hknl]
      obtain ⟨q1, hq1⟩ : ∃ q, q = xorL x kn := ⟨_, rfl⟩
      have hq1l : q1.length = 16 := by rw [hq1]; exact xorL_len hxl hknl
      have HWI := Lib.hid (fun w1 : World => by have h := refXor_n x kn hxl hknl w1; rw [← hq1] at h; exact h)
      obtain ⟨q2, hq2⟩ : ∃ q, q = trL q1 := ⟨_, rfl⟩
      have hq2l : q2.length = 16 := by rw [hq2]; exact trL_len hq1l
      have HSP := Lib.hid (fun w1 : World => by have h := refSpread_n q1 hq1l w1; rw [← hq2] at h; exact h)
      rw [← hq1, ← hq2] at hYS
      have HYS := Lib.hid hYS
      unfold aggB at HWI HSP
      have HN := Lib.hid hn
      clear hS hx hkn hq1 hq2 hYS hn hy
      go_upto_region 5 with fail
      refine wp_regionX (RS w gb g6 g7 kk x) 7 (by kernel_rfl) (RS.clo w gb g6 g7 kk x _ _ HSX.out (grownBy_drewN _ 1 none)) ?_
      refine wpX_take 0 (v := .agg (cellsB x)) (oi := { dst := some 14, op := Op.load 27 (Operand.tmp 3), type := 27, pos := "ref.go:180", after := #[], guard := none }) (oL := { dst := none, op := Op.store 33 (Operand.tmp 7) (Operand.tmp 19), type := 0, pos := "ref.go:180", after := #[{ on := 6, ground := Ground.data }, { on := 5, ground := Ground.data }, { on := 5, ground := Ground.chain }, { on := 0, ground := Ground.phase }, { on := 1, ground := Ground.phase }, { on := 2, ground := Ground.phase }, { on := 3, ground := Ground.phase }, { on := 4, ground := Ground.phase }, { on := 5, ground := Ground.phase }, { on := 6, ground := Ground.phase }], guard := none }) (RS.clo w gb g6 g7 kk x) rfl rfl rfl (by kernel_rfl) (by kernel_rfl) (by kernel_rfl) (by kernel_rfl) (by kernel_rfl) (fun _ _ _ h => h) (YG.val (by rfl) (fun u hS => run_load_op u _ 27 _ rfl (gb) rfl 27 (cellsB x) (hS.2.1) Try.underlying27 rfl (by rw [size_block, cellsB_size, hxl]))) ?_
      simp only [Act.put, List.setIfInBounds_toArray, List.set_cons_zero, List.set_cons_succ]
      refine wpX_take 1 (v := .int .i64 (n : Int)) (oi := { dst := some 15, op := Op.move (Operand.tmp 6), type := 3, pos := "ref.go:180", after := #[], guard := none }) (oL := { dst := none, op := Op.store 33 (Operand.tmp 7) (Operand.tmp 19), type := 0, pos := "ref.go:180", after := #[{ on := 6, ground := Ground.data }, { on := 5, ground := Ground.data }, { on := 5, ground := Ground.chain }, { on := 0, ground := Ground.phase }, { on := 1, ground := Ground.phase }, { on := 2, ground := Ground.phase }, { on := 3, ground := Ground.phase }, { on := 4, ground := Ground.phase }, { on := 5, ground := Ground.phase }, { on := 6, ground := Ground.phase }], guard := none }) (RS.clo w gb g6 g7 kk x) rfl rfl rfl (by kernel_rfl) (by kernel_rfl) (by kernel_rfl) (by kernel_rfl) (by kernel_rfl) (fun _ _ _ h => h) (YG.val (by rfl) (fun _ _ => rfl)) ?_
      simp only [Act.put, List.setIfInBounds_toArray, List.set_cons_zero, List.set_cons_succ]
      refine wpX_take 2 (v := .pointer (some ⟨g7, n * 16, none⟩)) (oi := { dst := some 16, op := Op.indexAddr 28 (Operand.tmp 5) (Operand.tmp 15), type := 0, pos := "ref.go:180", after := #[{ on := 1, ground := Ground.data }], guard := none }) (oL := { dst := none, op := Op.store 33 (Operand.tmp 7) (Operand.tmp 19), type := 0, pos := "ref.go:180", after := #[{ on := 6, ground := Ground.data }, { on := 5, ground := Ground.data }, { on := 5, ground := Ground.chain }, { on := 0, ground := Ground.phase }, { on := 1, ground := Ground.phase }, { on := 2, ground := Ground.phase }, { on := 3, ground := Ground.phase }, { on := 4, ground := Ground.phase }, { on := 5, ground := Ground.phase }, { on := 6, ground := Ground.phase }], guard := none }) (RS.clo w gb g6 g7 kk x) rfl rfl rfl (by kernel_rfl) (by kernel_rfl) (by kernel_rfl) (by kernel_rfl) (by kernel_rfl) (fun _ _ _ h => h) (YG.val (by rfl) (fun _ _ => by go_simp)) ?_
      simp only [Act.put, List.setIfInBounds_toArray, List.set_cons_zero, List.set_cons_succ]
      refine wpX_take 3 (v := .agg (cellsB kn)) (oi := { dst := some 17, op := Op.load 27 (Operand.tmp 16), type := 27, pos := "ref.go:180", after := #[{ on := 2, ground := Ground.data }], guard := none }) (oL := { dst := none, op := Op.store 33 (Operand.tmp 7) (Operand.tmp 19), type := 0, pos := "ref.go:180", after := #[{ on := 6, ground := Ground.data }, { on := 5, ground := Ground.data }, { on := 5, ground := Ground.chain }, { on := 0, ground := Ground.phase }, { on := 1, ground := Ground.phase }, { on := 2, ground := Ground.phase }, { on := 3, ground := Ground.phase }, { on := 4, ground := Ground.phase }, { on := 5, ground := Ground.phase }, { on := 6, ground := Ground.phase }], guard := none }) (RS.clo w gb g6 g7 kk x) rfl rfl rfl (by kernel_rfl) (by kernel_rfl) (by kernel_rfl) (by kernel_rfl) (by kernel_rfl) (fun _ _ _ h => h) (YG.row (by rfl) 27 _ rfl g7 (n * 16) rfl (kn.map bval) _ (fun u hS => by rw [HKN.out]; exact Blk.key hS.2.2.2 n) Try.underlying27 rfl hi2') ?_
      simp only [Act.put, List.setIfInBounds_toArray, List.set_cons_zero, List.set_cons_succ]
      refine wpX_take 4 (v := .agg (cellsB q1)) (oi := { dst := some 18, op := Op.call { callee := Callee.value (Operand.func 61), args := #[Operand.tmp 14, Operand.tmp 17], argTypes := #[27, 27] }, type := 27, pos := "ref.go:180", after := #[{ on := 0, ground := Ground.data }, { on := 3, ground := Ground.data }], guard := none }) (oL := { dst := none, op := Op.store 33 (Operand.tmp 7) (Operand.tmp 19), type := 0, pos := "ref.go:180", after := #[{ on := 6, ground := Ground.data }, { on := 5, ground := Ground.data }, { on := 5, ground := Ground.chain }, { on := 0, ground := Ground.phase }, { on := 1, ground := Ground.phase }, { on := 2, ground := Ground.phase }, { on := 3, ground := Ground.phase }, { on := 4, ground := Ground.phase }, { on := 5, ground := Ground.phase }, { on := 6, ground := Ground.phase }], guard := none }) (RS.clo w gb g6 g7 kk x) rfl rfl rfl (by kernel_rfl) (by kernel_rfl) (by kernel_rfl) (by kernel_rfl) (by kernel_rfl) (fun _ _ _ h => h) (YG.call (f := 61) (args := #[.agg (cellsB x), .agg (cellsB kn)]) (by rfl) (fun w => by go_simp) (fun u _ => HWI.out u)) ?_
      simp only [Act.put, List.setIfInBounds_toArray, List.set_cons_zero, List.set_cons_succ]
      refine wpX_take 5 (v := .agg (cellsB q2)) (oi := { dst := some 19, op := Op.call { callee := Callee.value (Operand.func 25), args := #[Operand.tmp 18], argTypes := #[27] }, type := 33, pos := "ref.go:180", after := #[{ on := 4, ground := Ground.data }, { on := 4, ground := Ground.chain }], guard := none }) (oL := { dst := none, op := Op.store 33 (Operand.tmp 7) (Operand.tmp 19), type := 0, pos := "ref.go:180", after := #[{ on := 6, ground := Ground.data }, { on := 5, ground := Ground.data }, { on := 5, ground := Ground.chain }, { on := 0, ground := Ground.phase }, { on := 1, ground := Ground.phase }, { on := 2, ground := Ground.phase }, { on := 3, ground := Ground.phase }, { on := 4, ground := Ground.phase }, { on := 5, ground := Ground.phase }, { on := 6, ground := Ground.phase }], guard := none }) (RS.clo w gb g6 g7 kk x) rfl rfl rfl (by kernel_rfl) (by kernel_rfl) (by kernel_rfl) (by kernel_rfl) (by kernel_rfl) (fun _ _ _ h => h) (YG.call (f := 25) (args := #[.agg (cellsB q1)]) (by rfl) (fun w => by go_simp) (fun u _ => HSP.out u)) ?_
      simp only [Act.put, List.setIfInBounds_toArray, List.set_cons_zero, List.set_cons_succ]
      refine wpX_step 6 (o := { dst := some 7, op := Op.alloc 33, type := 0, pos := "ref.go:180", after := #[], guard := none }) rfl rfl (by kernel_rfl) (by rfl) (fun u2 hS2 K hK => ?_)
      have HK := Lib.hid hK
      have HS2 := Lib.hid hS2
      clear hK hS2
      refine wp_val_op (v := .pointer (some ⟨u2.heap.size, 0, none⟩)) (w1 := u2.alloc (.cells (cellsB z16) 33)) (run_alloc_op u2 _ rfl IS.out ISZ.out) ?_
      have hlt2 := HS2.out.lt
      have hls2 : w.heap.size ≤ u2.heap.size := HS2.out.1.size
      obtain ⟨gs, hgs⟩ : ∃ g, g = u2.heap.size := ⟨_, rfl⟩
      refine HK.out (fun u => RS w gb g6 g7 kk x u ∧ ∃ z, z.length = 16 ∧ Blk u u2.heap.size 33 z) _ _ ⟨HS2.out.grown (World.grownBy_alloc _ _ _), z16, rfl, Blk.new u2 33 z16⟩ (fun u h => h.1) (fun _ _ h hg => ⟨h.1.grown hg, by obtain ⟨z, hz, hb⟩ := h.2; exact ⟨z, hz, hb.grown hg (by simp)⟩⟩) ?_
      simp only [Act.put, List.setIfInBounds_toArray, List.set_cons_zero, List.set_cons_succ]
      rw [← hgs]
      rw [← hgs] at hlt2 hls2
      have HGS := Lib.hid hlt2
      have HWS := Lib.hid hls2
      clear hgs hlt2 hls2 HK HS2
      refine wpX_last (oL := { dst := none, op := Op.store 33 (Operand.tmp 7) (Operand.tmp 19), type := 0, pos := "ref.go:180", after := #[{ on := 6, ground := Ground.data }, { on := 5, ground := Ground.data }, { on := 5, ground := Ground.chain }, { on := 0, ground := Ground.phase }, { on := 1, ground := Ground.phase }, { on := 2, ground := Ground.phase }, { on := 3, ground := Ground.phase }, { on := 4, ground := Ground.phase }, { on := 5, ground := Ground.phase }, { on := 6, ground := Ground.phase }], guard := none }) rfl (by kernel_rfl) (by kernel_rfl) (by rfl) (fun u4 hS4 K4 hK4 => ?_)
      obtain ⟨hD4, z4, hz4, hb4⟩ := hS4
      refine wp_store_row 33 _ _ rfl gs (cellsB q2) rfl rfl 33 _ hb4 (by rw [size_state, cellsB_size, hq2l]) (by rw [cellsB_size, cellsB_size, hq2l, hz4]) (cellsB_one _) (hK4 _ _ ?_)
      have hset := grownBy_setRow u4 gs (cellsB q2)
      have hd5 := hD4.far hset HWS.out (by have := HGS.out; omega) (by have := HGS.out; omega) (by have := HGS.out; omega)
      have hb5 := hb4.row q2
      obtain ⟨w5, hw5⟩ : ∃ W, W = u4.setRow gs (cellsB q2) := ⟨_, rfl⟩
      rw [← hw5] at hd5 hb5 ⊢
      have HD5 := Lib.hid hd5
      have HB5 := Lib.hid hb5
      clear hset hd5 hb5 hw5 hD4 hz4 hb4 hK4 HSX
      by_cases h10 : n < 10
      · obtain ⟨q3, hq3⟩ : ∃ q, q = mixL [14, 11, 13, 9] q2 := ⟨_, rfl⟩
        have hq3l : q3.length = 16 := by rw [hq3]; exact mixL_len rfl hq2l
        have HMX := Lib.hid (fun w1 : World => by have h := refUnmix_n q2 hq2l w1; rw [← hq3] at h; exact h)
        have hys := HYS.out
        rw [if_pos h10, ← hq3] at hys
        obtain ⟨q4, hq4⟩ : ∃ q, q = unshL q3 := ⟨_, rfl⟩
        have hq4l : q4.length = 16 := by rw [hq4]; exact unshL_len hq3l
        have HUS := Lib.hid (fun w1 : World => by have h := refUnshift_n q3 hq3l w1; rw [← hq4] at h; exact h)
        obtain ⟨q5, hq5⟩ : ∃ q, q = q4.map aunsub := ⟨_, rfl⟩
        have hq5l : q5.length = 16 := by rw [hq5]; exact map_len aunsub hq4l
        have HUB := Lib.hid (fun w1 : World => by have h := refUnsubAll_n q4 hq4l w1; rw [← hq5] at h; exact h)
        rw [← hq4, ← hq5] at hys
        have HGA := Lib.hid (fun w1 : World => by have h := refGather_n q5 hq5l w1; rw [← hys] at h; exact h)
        unfold aggB at HMX HUS HUB HGA
        clear hq3 hq4 hq5 hys HYS
        have h10' : (n : Int) < 10 := by omega
        have h10d : decide ((n : Int) < 10) = true := by simp; omega
        have hnj : j + n = 10 := by have := HN.out; omega
        go_wp2_with (first | (refine wpList_load_rowW (by rfl) 33 _ rfl (gs) rfl 33 (cellsB q2) (0, 0) _ HB5.out Try.underlying33 rfl (by rw [size_state, cellsB_size, hq2l]) ?_))
        refine (HMX.out _).mono ?_
        rintro e w6 ⟨rfl, hg6⟩
        have HD6 := Lib.hid (HD5.out.grown hg6)
        have HB6 := Lib.hid (HB5.out.grown hg6 (by simp))
        clear hg6 HD5 HB5
        go_wp2_with (first | (refine wpList_putrow rfl rfl (gs) rfl (cellsB q3) rfl HB6.out (by rw [size_state, cellsB_size, hq3l]) (by rw [cellsB_size, cellsB_size, hq3l, hq2l]) (cellsB_one _) ?_; intro wq hgP hrP; have HD6b := Lib.hid (HD6.out.far hgP HWS.out (by have := HGS.out; omega) (by have := HGS.out; omega) (by have := HGS.out; omega)); have HB6b := Lib.hid (show Blk wq gs 33 q3 from hrP); clear hgP hrP) | (refine wpList_load_rowW (by rfl) 33 _ rfl (gs) rfl 33 (cellsB q3) (0, 0) _ HB6b.out Try.underlying33 rfl (by rw [size_state, cellsB_size, hq3l]) ?_))
        refine (HUS.out _).mono ?_
        rintro e w7 ⟨rfl, hg7⟩
        have HD7 := Lib.hid (HD6b.out.grown hg7)
        clear hg7
        go_wp2_with fail
        refine (HUB.out _).mono ?_
        rintro e w8 ⟨rfl, hg8⟩
        have HD8 := Lib.hid (HD7.out.grown hg8)
        clear hg8
        go_wp2_with fail
        refine (HGA.out _).mono ?_
        rintro e w9 ⟨rfl, hg9⟩
        have HD9 := Lib.hid (HD8.out.grown hg9)
        clear hg9
        have e20 : IntKind.i64.wrap ((n : Int) - 1) = (n : Int) - 1 := IntWalk.i64_in _ (by omega)
        go_wp2_with (first | (refine wpList_putrow rfl rfl (gb) rfl (cellsB y) rfl HD9.out.2.1 (by rw [size_block, cellsB_size, hyl]) (by rw [cellsB_size, cellsB_size, hyl, hxl]) (cellsB_one _) ?_; intro wp hgP hrP; have HDP := Lib.hid (HD9.out.put hgP hrP HDD.out); clear hgP hrP))
        go_roundw
        case rel => exact ⟨j + 1, by omega, by rw [show 10 - (j + 1) = n - 1 by omega, show ((n - 1 : Nat) : Int) = (n : Int) - 1 by omega], by rw [← HY.out]; exact HDP.out⟩
        case measure => simp [intOf]; omega

      · have hys := HYS.out
        rw [if_neg h10] at hys
        obtain ⟨q4, hq4⟩ : ∃ q, q = unshL q2 := ⟨_, rfl⟩
        have hq4l : q4.length = 16 := by rw [hq4]; exact unshL_len hq2l
        have HUS := Lib.hid (fun w1 : World => by have h := refUnshift_n q2 hq2l w1; rw [← hq4] at h; exact h)
        obtain ⟨q5, hq5⟩ : ∃ q, q = q4.map aunsub := ⟨_, rfl⟩
        have hq5l : q5.length = 16 := by rw [hq5]; exact map_len aunsub hq4l
        have HUB := Lib.hid (fun w1 : World => by have h := refUnsubAll_n q4 hq4l w1; rw [← hq5] at h; exact h)
        rw [← hq4, ← hq5] at hys
        have HGA := Lib.hid (fun w1 : World => by have h := refGather_n q5 hq5l w1; rw [← hys] at h; exact h)
        unfold aggB at HUS HUB HGA
        clear hq4 hq5 hys HYS
        have h10' : ¬ (n : Int) < 10 := by omega
        have h10d : decide ((n : Int) < 10) = false := by simp; omega
        have hnj : j + n = 10 := by have := HN.out; omega
        go_wp2_with (first | (refine wpList_load_rowW (by rfl) 33 _ rfl (gs) rfl 33 (cellsB q2) (0, 0) _ HB5.out Try.underlying33 rfl (by rw [size_state, cellsB_size, hq2l]) ?_))
        refine (HUS.out _).mono ?_
        rintro e w7 ⟨rfl, hg7⟩
        have HD7 := Lib.hid (HD5.out.grown hg7)
        clear hg7
        go_wp2_with fail
        refine (HUB.out _).mono ?_
        rintro e w8 ⟨rfl, hg8⟩
        have HD8 := Lib.hid (HD7.out.grown hg8)
        clear hg8
        go_wp2_with fail
        refine (HGA.out _).mono ?_
        rintro e w9 ⟨rfl, hg9⟩
        have HD9 := Lib.hid (HD8.out.grown hg9)
        clear hg9
        have e20 : IntKind.i64.wrap ((n : Int) - 1) = (n : Int) - 1 := IntWalk.i64_in _ (by omega)
        go_wp2_with (first | (refine wpList_putrow rfl rfl (gb) rfl (cellsB y) rfl HD9.out.2.1 (by rw [size_block, cellsB_size, hyl]) (by rw [cellsB_size, cellsB_size, hyl, hxl]) (cellsB_one _) ?_; intro wp hgP hrP; have HDP := Lib.hid (HD9.out.put hgP hrP HDD.out); clear hgP hrP))
        go_roundw
        case rel => exact ⟨j + 1, by omega, by rw [show 10 - (j + 1) = n - 1 by omega, show ((n - 1 : Nat) : Int) = (n : Int) - 1 by omega], by rw [← HY.out]; exact HDP.out⟩
        case measure => simp [intOf]; omega

    · obtain rfl : j = 10 := by omega
      rw [← HX0.out] at hS
      have HSX := Lib.hid hS
      clear hS
      have e00 : ((10 - 10 : Nat) : Int) = 0 := rfl
      rw [e00]
      go_wp2_with (first | (refine wpList_load_rowW (by rfl) 27 _ rfl (gb) rfl 27 (cellsB x0) (0, 0) _ HSX.out.2.1 Try.underlying27 rfl (by rw [size_block, cellsB_size, hxl0]) ?_) | (refine wpList_load_mid rfl 27 _ rfl g7 0 rfl (k0.map bval) _ (by have h := Blk.key HSX.out.2.2.2 0; rw [← HK0.out, Nat.zero_mul] at h; exact h) Try.underlying27 rfl hi20 ?_))
      refine (HW0.out _).mono ?_
      rintro e w3 ⟨rfl, g⟩
      have HS3 := Lib.hid (HSX.out.grown g)
      clear g HSX
      go_wp2_with (first | (refine wpList_store_row rfl 27 _ _ rfl g6 (cellsB y0) rfl rfl 27 _ HS3.out.2.2.1 (by rw [size_block, cellsB_size, hy0l]) (by rw [cellsB_size, cellsB_size, hy0l]; rfl) (cellsB_one _) ?_))
      refine bodyPost_ret (v := .agg (cellsB y0)) (results_cell_row rfl _ _ g6 27 (cellsB y0) (0, 0) _ rfl (setRow_heap _ _ _ _ _ _ HS3.out.2.2.1) Try.underlying27 rfl (by rw [size_block, cellsB_size, hy0l])) rfl ⟨rfl, ?_⟩
      exact grownBy_old HS3.out.1 (grownBy_setRow _ _ _) (by have := HDD.out; omega)

end Go.Proofs.Ytlnmglddialhjaa
