/- AesNil: a cipher that is none, or that nobody made; the walk. -/
import Derived.Test.YtlnmglddialhjaaAesAwake
import Derived.Test.YtlnmglddialhjaaAesEq
namespace Go.Proofs.Ytlnmglddialhjaa
open Go.RowKit

theorem z16_len : z16.length = 16 := rfl

set_option maxRecDepth 100000 in
set_option maxHeartbeats 1000000 in
theorem encNil_n (b : List UInt8) (hb : b.length = 16) (w : World) : Calls Try.prog 48 #[.pointer none, .agg (cellsB b)] w fun e w' => e = .returned (.tuple #[.agg (cellsB z16), .int .i64 1]) ∧ w.grownBy w' none := by
  obtain ⟨h1, h2, hg⟩ := two w b z16 27 27
  have HR := Lib.hid h2
  have HG := Lib.hid hg
  clear h1 h2 hg
  go_enter Try.func48, Try.ntmps48
  go_wp2_with (refine wpList_store_row rfl 27 _ _ rfl (w.heap.size + 1) (cellsB z16) rfl rfl 27 _ HR.out (by rw [size_block, cellsB_size, z16_len]) rfl (cellsB_one _) ?_)
  refine bodyPost_ret (v := .tuple #[.agg (cellsB z16), .int .i64 1]) (results_ct rfl _ _ (w.heap.size + 1) 27 (cellsB z16) (0, 0) _ _ rfl rfl (setRow_heap _ _ _ _ _ _ HR.out) Try.underlying27 rfl (by rw [size_block, cellsB_size, z16_len])) rfl ⟨rfl, ?_⟩
  exact grownBy_old HG.out (grownBy_setRow _ _ _) (by omega)

set_option maxRecDepth 100000 in
set_option maxHeartbeats 1000000 in
theorem encRaw_n (b : List UInt8) (hb : b.length = 16) (w : World) (gc : Nat) (hz : w.cell? ⟨gc, 0, none⟩ = some (.bool false)) : Calls Try.prog 48 #[.pointer (some ⟨gc, 0, none⟩), .agg (cellsB b)] w fun e w' => e = .returned (.tuple #[.agg (cellsB z16), .int .i64 1]) ∧ w.grownBy w' none := by
  obtain ⟨h1, h2, hg⟩ := two w b z16 27 27
  have HR := Lib.hid h2
  have HG := Lib.hid hg
  clear h1 h2 hg
  have hgl := World.block_lt_of_cell? w ⟨gc, 0, none⟩ hz
  have hz2 : ((w.alloc (.cells (cellsB b) 27)).alloc (.cells #[.int .u8 0, .int .u8 0, .int .u8 0, .int .u8 0, .int .u8 0, .int .u8 0, .int .u8 0, .int .u8 0, .int .u8 0, .int .u8 0, .int .u8 0, .int .u8 0, .int .u8 0, .int .u8 0, .int .u8 0, .int .u8 0] 27)).cell? ⟨gc, 0, none⟩ = some (.bool false) := (World.cell?_of_block (HG.out.block gc hgl (by simp))).trans hz
  go_enter Try.func48, Try.ntmps48
  go_wp2_with (refine wpList_store_row rfl 27 _ _ rfl (w.heap.size + 1) (cellsB z16) rfl rfl 27 _ HR.out (by rw [size_block, cellsB_size, z16_len]) rfl (cellsB_one _) ?_)
  refine bodyPost_ret (v := .tuple #[.agg (cellsB z16), .int .i64 1]) (results_ct rfl _ _ (w.heap.size + 1) 27 (cellsB z16) (0, 0) _ _ rfl rfl (setRow_heap _ _ _ _ _ _ HR.out) Try.underlying27 rfl (by rw [size_block, cellsB_size, z16_len])) rfl ⟨rfl, ?_⟩
  exact grownBy_old HG.out (grownBy_setRow _ _ _) (by omega)

set_option maxRecDepth 100000 in
set_option maxHeartbeats 1000000 in
theorem decNil_n (b : List UInt8) (hb : b.length = 16) (w : World) : Calls Try.prog 46 #[.pointer none, .agg (cellsB b)] w fun e w' => e = .returned (.tuple #[.agg (cellsB z16), .int .i64 1]) ∧ w.grownBy w' none := by
  obtain ⟨h1, h2, hg⟩ := two w b z16 27 27
  have HR := Lib.hid h2
  have HG := Lib.hid hg
  clear h1 h2 hg
  go_enter Try.func46, Try.ntmps46
  go_wp2_with (refine wpList_store_row rfl 27 _ _ rfl (w.heap.size + 1) (cellsB z16) rfl rfl 27 _ HR.out (by rw [size_block, cellsB_size, z16_len]) rfl (cellsB_one _) ?_)
  refine bodyPost_ret (v := .tuple #[.agg (cellsB z16), .int .i64 1]) (results_ct rfl _ _ (w.heap.size + 1) 27 (cellsB z16) (0, 0) _ _ rfl rfl (setRow_heap _ _ _ _ _ _ HR.out) Try.underlying27 rfl (by rw [size_block, cellsB_size, z16_len])) rfl ⟨rfl, ?_⟩
  exact grownBy_old HG.out (grownBy_setRow _ _ _) (by omega)

set_option maxRecDepth 100000 in
set_option maxHeartbeats 1000000 in
theorem decRaw_n (b : List UInt8) (hb : b.length = 16) (w : World) (gc : Nat) (hz : w.cell? ⟨gc, 0, none⟩ = some (.bool false)) : Calls Try.prog 46 #[.pointer (some ⟨gc, 0, none⟩), .agg (cellsB b)] w fun e w' => e = .returned (.tuple #[.agg (cellsB z16), .int .i64 1]) ∧ w.grownBy w' none := by
  obtain ⟨h1, h2, hg⟩ := two w b z16 27 27
  have HR := Lib.hid h2
  have HG := Lib.hid hg
  clear h1 h2 hg
  have hgl := World.block_lt_of_cell? w ⟨gc, 0, none⟩ hz
  have hz2 : ((w.alloc (.cells (cellsB b) 27)).alloc (.cells #[.int .u8 0, .int .u8 0, .int .u8 0, .int .u8 0, .int .u8 0, .int .u8 0, .int .u8 0, .int .u8 0, .int .u8 0, .int .u8 0, .int .u8 0, .int .u8 0, .int .u8 0, .int .u8 0, .int .u8 0, .int .u8 0] 27)).cell? ⟨gc, 0, none⟩ = some (.bool false) := (World.cell?_of_block (HG.out.block gc hgl (by simp))).trans hz
  go_enter Try.func46, Try.ntmps46
  go_wp2_with (refine wpList_store_row rfl 27 _ _ rfl (w.heap.size + 1) (cellsB z16) rfl rfl 27 _ HR.out (by rw [size_block, cellsB_size, z16_len]) rfl (cellsB_one _) ?_)
  refine bodyPost_ret (v := .tuple #[.agg (cellsB z16), .int .i64 1]) (results_ct rfl _ _ (w.heap.size + 1) 27 (cellsB z16) (0, 0) _ _ rfl rfl (setRow_heap _ _ _ _ _ _ HR.out) Try.underlying27 rfl (by rw [size_block, cellsB_size, z16_len])) rfl ⟨rfl, ?_⟩
  exact grownBy_old HG.out (grownBy_setRow _ _ _) (by omega)

theorem built_raw : ∃ zc, Try.prog.built 59 [] = some zc ∧ zc[0]? = some (.bool false) := ⟨(Try.prog.built 59 []).getD #[], by kernel_rfl, by kernel_rfl⟩

set_option maxRecDepth 100000 in
set_option maxHeartbeats 4000000 in
theorem nil_walk (b : List UInt8) (hb : b.length = 16) (w : World) : Calls Try.prog 12 #[aggB b] w fun e w' => e = .returned (.bool true) ∧ w.grownBy w' none := by
  obtain ⟨zc, hzb, hz0⟩ := built_raw
  have HZB := Lib.hid hzb
  have hm2 : Try.prog.eqGuardType Try.prog.depth 27 = false := by kernel_rfl
  obtain ⟨z, hz⟩ : ∃ z, z = z16 := ⟨_, rfl⟩
  have hzl : z.length = 16 := by rw [hz]; rfl
  have q1 := fun w1 : World => nsame_block z hzl w1
  have E1 := Lib.hid (fun w1 : World => by have h := encNil_n b hb w1; rw [← hz] at h; exact h)
  have D1 := Lib.hid (fun w1 : World => by have h := decNil_n b hb w1; rw [← hz] at h; exact h)
  have E2 := Lib.hid (fun (w1 : World) (gc : Nat) (hc : w1.cell? ⟨gc, 0, none⟩ = some (.bool false)) => by have h := encRaw_n b hb w1 gc hc; rw [← hz] at h; exact h)
  have D2 := Lib.hid (fun (w1 : World) (gc : Nat) (hc : w1.cell? ⟨gc, 0, none⟩ = some (.bool false)) => by have h := decRaw_n b hb w1 gc hc; rw [← hz] at h; exact h)
  have HNEW := Lib.hid (fun w1 : World => show Blk (w1.alloc (.cells #[.int .u8 0, .int .u8 0, .int .u8 0, .int .u8 0, .int .u8 0, .int .u8 0, .int .u8 0, .int .u8 0, .int .u8 0, .int .u8 0, .int .u8 0, .int .u8 0, .int .u8 0, .int .u8 0, .int .u8 0, .int .u8 0] 27)) w1.heap.size 27 z from by rw [hz]; exact Blk.new w1 27 z16)
  have HRAW := Lib.hid (fun w1 : World => show (w1.alloc (.cells zc 59)).cell? ⟨w1.heap.size, 0, none⟩ = some (.bool false) from by simp only [World.cell?, heap_alloc_new]; exact hz0)
  have HZ16 := Lib.hid hz
  clear hzb hz0 hz
  have HB0 := Lib.hid (Blk.new w 27 b)
  have HG0 := Lib.hid (World.grownBy_alloc w (.cells (cellsB b) 27) none)
  unfold aggB
  go_enter Try.func12, Try.ntmps12
  go_wp2_with (refine wpList_load_row rfl 27 _ rfl w.heap.size rfl 27 (cellsB b) (0, 0) _ HB0.out Try.underlying27 rfl (by rw [size_block, cellsB_size, hb]) ?_)
  refine (E1.out _).mono ?_
  rintro e v1 ⟨rfl, hg⟩
  have hs1 := (HB0.out.grown hg (by simp)).lt
  have hgw1 := (grownBy_trans HG0.out hg).size
  obtain ⟨W1, hW1⟩ : ∃ W, W = (v1.alloc (.cells #[.int .u8 0, .int .u8 0, .int .u8 0, .int .u8 0, .int .u8 0, .int .u8 0, .int .u8 0, .int .u8 0, .int .u8 0, .int .u8 0, .int .u8 0, .int .u8 0, .int .u8 0, .int .u8 0, .int .u8 0, .int .u8 0] 27)).setRow v1.heap.size (cellsB z) := ⟨_, rfl⟩
  have HN1 := Lib.hid (HNEW.out v1)
  have gn := World.grownBy_alloc v1 (.cells #[.int .u8 0, .int .u8 0, .int .u8 0, .int .u8 0, .int .u8 0, .int .u8 0, .int .u8 0, .int .u8 0, .int .u8 0, .int .u8 0, .int .u8 0, .int .u8 0, .int .u8 0, .int .u8 0, .int .u8 0, .int .u8 0] 27) none
  have HB1 := Lib.hid (show Blk W1 w.heap.size 27 b from hW1 ▸ ((HB0.out.grown hg (by simp)).grown gn (by simp)).rowNe (cellsB z) (by omega))
  have HG1 := Lib.hid (show w.grownBy W1 none from hW1 ▸ grownBy_old (grownBy_trans (grownBy_trans HG0.out hg) gn) (grownBy_setRow _ v1.heap.size (cellsB z)) (by omega))
  have HX1_1 := Lib.hid (show Blk W1 v1.heap.size 27 z from hW1 ▸ (HNEW.out v1).row z)
  clear hg gn HB0 HG0 
  go_upto_region 3 with (refine wpList_store_row rfl 27 _ _ rfl v1.heap.size (cellsB z) rfl rfl 27 _ HN1.out (by rw [size_block, cellsB_size, hzl]) rfl (cellsB_one _) ?_)
  rw [← hW1]
  clear hW1 HN1
  go_wp2_with (refine wpList_load_row rfl 27 _ rfl w.heap.size rfl 27 (cellsB b) (0, 0) _ HB1.out Try.underlying27 rfl (by rw [size_block, cellsB_size, hb]) ?_)
  refine (D1.out _).mono ?_
  rintro e v2 ⟨rfl, hg⟩
  have hs2 := (HB1.out.grown hg (by simp)).lt
  have hgw2 := (grownBy_trans HG1.out hg).size
  have hb1_2 := (HX1_1.out.grown hg (by simp)).lt
  obtain ⟨W2, hW2⟩ : ∃ W, W = (v2.alloc (.cells #[.int .u8 0, .int .u8 0, .int .u8 0, .int .u8 0, .int .u8 0, .int .u8 0, .int .u8 0, .int .u8 0, .int .u8 0, .int .u8 0, .int .u8 0, .int .u8 0, .int .u8 0, .int .u8 0, .int .u8 0, .int .u8 0] 27)).setRow v2.heap.size (cellsB z) := ⟨_, rfl⟩
  have HN2 := Lib.hid (HNEW.out v2)
  have gn := World.grownBy_alloc v2 (.cells #[.int .u8 0, .int .u8 0, .int .u8 0, .int .u8 0, .int .u8 0, .int .u8 0, .int .u8 0, .int .u8 0, .int .u8 0, .int .u8 0, .int .u8 0, .int .u8 0, .int .u8 0, .int .u8 0, .int .u8 0, .int .u8 0] 27) none
  have HB2 := Lib.hid (show Blk W2 w.heap.size 27 b from hW2 ▸ ((HB1.out.grown hg (by simp)).grown gn (by simp)).rowNe (cellsB z) (by omega))
  have HG2 := Lib.hid (show w.grownBy W2 none from hW2 ▸ grownBy_old (grownBy_trans (grownBy_trans HG1.out hg) gn) (grownBy_setRow _ v2.heap.size (cellsB z)) (by omega))
  have HX2_2 := Lib.hid (show Blk W2 v2.heap.size 27 z from hW2 ▸ (HNEW.out v2).row z)
  have HX1_2 := Lib.hid (show Blk W2 v1.heap.size 27 z from hW2 ▸ ((HX1_1.out.grown hg (by simp)).grown gn (by simp)).rowNe (cellsB z) (by omega))
  clear hg gn HB1 HG1 HX1_1
  go_upto_region 4 with (refine wpList_store_row rfl 27 _ _ rfl v2.heap.size (cellsB z) rfl rfl 27 _ HN2.out (by rw [size_block, cellsB_size, hzl]) rfl (cellsB_one _) ?_)
  rw [← hW2]
  clear hW2 HN2
  have HBL2 := Lib.hid (HB2.out.grown (World.grownBy_alloc W2 (.cells zc 59) none) (by simp))
  go_wp2_with (first | (refine wpList_built rfl 59 #[] rfl zc (by first | exact HZB.out | (simp only [List.map_toArray, List.map_nil]; exact HZB.out)) ?_) | (refine wpList_load_row rfl 27 _ rfl w.heap.size rfl 27 (cellsB b) (0, 0) _ HBL2.out Try.underlying27 rfl (by rw [size_block, cellsB_size, hb]) ?_))
  refine (E2.out _ _ (HRAW.out W2)).mono ?_
  rintro e v3 ⟨rfl, hg⟩
  have hg := grownBy_trans (World.grownBy_alloc W2 (.cells zc 59) none) hg
  have hs3 := (HB2.out.grown hg (by simp)).lt
  have hgw3 := (grownBy_trans HG2.out hg).size
  have hb1_3 := (HX1_2.out.grown hg (by simp)).lt
  have hb2_3 := (HX2_2.out.grown hg (by simp)).lt
  obtain ⟨W3, hW3⟩ : ∃ W, W = (v3.alloc (.cells #[.int .u8 0, .int .u8 0, .int .u8 0, .int .u8 0, .int .u8 0, .int .u8 0, .int .u8 0, .int .u8 0, .int .u8 0, .int .u8 0, .int .u8 0, .int .u8 0, .int .u8 0, .int .u8 0, .int .u8 0, .int .u8 0] 27)).setRow v3.heap.size (cellsB z) := ⟨_, rfl⟩
  have HN3 := Lib.hid (HNEW.out v3)
  have gn := World.grownBy_alloc v3 (.cells #[.int .u8 0, .int .u8 0, .int .u8 0, .int .u8 0, .int .u8 0, .int .u8 0, .int .u8 0, .int .u8 0, .int .u8 0, .int .u8 0, .int .u8 0, .int .u8 0, .int .u8 0, .int .u8 0, .int .u8 0, .int .u8 0] 27) none
  have HB3 := Lib.hid (show Blk W3 w.heap.size 27 b from hW3 ▸ ((HB2.out.grown hg (by simp)).grown gn (by simp)).rowNe (cellsB z) (by omega))
  have HG3 := Lib.hid (show w.grownBy W3 none from hW3 ▸ grownBy_old (grownBy_trans (grownBy_trans HG2.out hg) gn) (grownBy_setRow _ v3.heap.size (cellsB z)) (by omega))
  have HX3_3 := Lib.hid (show Blk W3 v3.heap.size 27 z from hW3 ▸ (HNEW.out v3).row z)
  have HX1_3 := Lib.hid (show Blk W3 v1.heap.size 27 z from hW3 ▸ ((HX1_2.out.grown hg (by simp)).grown gn (by simp)).rowNe (cellsB z) (by omega))
  have HX2_3 := Lib.hid (show Blk W3 v2.heap.size 27 z from hW3 ▸ ((HX2_2.out.grown hg (by simp)).grown gn (by simp)).rowNe (cellsB z) (by omega))
  clear hg gn HB2 HG2 HX1_2 HX2_2
  go_upto_region 5 with (refine wpList_store_row rfl 27 _ _ rfl v3.heap.size (cellsB z) rfl rfl 27 _ HN3.out (by rw [size_block, cellsB_size, hzl]) rfl (cellsB_one _) ?_)
  rw [← hW3]
  clear hW3 HN3
  have HBL3 := Lib.hid (HB3.out.grown (World.grownBy_alloc W3 (.cells zc 59) none) (by simp))
  go_wp2_with (first | (refine wpList_built rfl 59 #[] rfl zc (by first | exact HZB.out | (simp only [List.map_toArray, List.map_nil]; exact HZB.out)) ?_) | (refine wpList_load_row rfl 27 _ rfl w.heap.size rfl 27 (cellsB b) (0, 0) _ HBL3.out Try.underlying27 rfl (by rw [size_block, cellsB_size, hb]) ?_))
  refine (D2.out _ _ (HRAW.out W3)).mono ?_
  rintro e v4 ⟨rfl, hg⟩
  have hg := grownBy_trans (World.grownBy_alloc W3 (.cells zc 59) none) hg
  have hs4 := (HB3.out.grown hg (by simp)).lt
  have hgw4 := (grownBy_trans HG3.out hg).size
  have hb1_4 := (HX1_3.out.grown hg (by simp)).lt
  have hb2_4 := (HX2_3.out.grown hg (by simp)).lt
  have hb3_4 := (HX3_3.out.grown hg (by simp)).lt
  obtain ⟨W4, hW4⟩ : ∃ W, W = (v4.alloc (.cells #[.int .u8 0, .int .u8 0, .int .u8 0, .int .u8 0, .int .u8 0, .int .u8 0, .int .u8 0, .int .u8 0, .int .u8 0, .int .u8 0, .int .u8 0, .int .u8 0, .int .u8 0, .int .u8 0, .int .u8 0, .int .u8 0] 27)).setRow v4.heap.size (cellsB z) := ⟨_, rfl⟩
  have HN4 := Lib.hid (HNEW.out v4)
  have gn := World.grownBy_alloc v4 (.cells #[.int .u8 0, .int .u8 0, .int .u8 0, .int .u8 0, .int .u8 0, .int .u8 0, .int .u8 0, .int .u8 0, .int .u8 0, .int .u8 0, .int .u8 0, .int .u8 0, .int .u8 0, .int .u8 0, .int .u8 0, .int .u8 0] 27) none
  have HB4 := Lib.hid (show Blk W4 w.heap.size 27 b from hW4 ▸ ((HB3.out.grown hg (by simp)).grown gn (by simp)).rowNe (cellsB z) (by omega))
  have HG4 := Lib.hid (show w.grownBy W4 none from hW4 ▸ grownBy_old (grownBy_trans (grownBy_trans HG3.out hg) gn) (grownBy_setRow _ v4.heap.size (cellsB z)) (by omega))
  have HX4_4 := Lib.hid (show Blk W4 v4.heap.size 27 z from hW4 ▸ (HNEW.out v4).row z)
  have HX1_4 := Lib.hid (show Blk W4 v1.heap.size 27 z from hW4 ▸ ((HX1_3.out.grown hg (by simp)).grown gn (by simp)).rowNe (cellsB z) (by omega))
  have HX2_4 := Lib.hid (show Blk W4 v2.heap.size 27 z from hW4 ▸ ((HX2_3.out.grown hg (by simp)).grown gn (by simp)).rowNe (cellsB z) (by omega))
  have HX3_4 := Lib.hid (show Blk W4 v3.heap.size 27 z from hW4 ▸ ((HX3_3.out.grown hg (by simp)).grown gn (by simp)).rowNe (cellsB z) (by omega))
  clear hg gn HB3 HG3 HX1_3 HX2_3 HX3_3
  go_upto_region 6 with (refine wpList_store_row rfl 27 _ _ rfl v4.heap.size (cellsB z) rfl rfl 27 _ HN4.out (by rw [size_block, cellsB_size, hzl]) rfl (cellsB_one _) ?_)
  rw [← hW4]
  clear hW4 HN4
  obtain ⟨W5, hW5⟩ : ∃ W, W = (W4.alloc (.cells #[.int .u8 0, .int .u8 0, .int .u8 0, .int .u8 0, .int .u8 0, .int .u8 0, .int .u8 0, .int .u8 0, .int .u8 0, .int .u8 0, .int .u8 0, .int .u8 0, .int .u8 0, .int .u8 0, .int .u8 0, .int .u8 0] 27)).setRow W4.heap.size (cellsB z) := ⟨_, rfl⟩
  have HN5 := Lib.hid (HNEW.out W4)
  have gn := World.grownBy_alloc W4 (.cells #[.int .u8 0, .int .u8 0, .int .u8 0, .int .u8 0, .int .u8 0, .int .u8 0, .int .u8 0, .int .u8 0, .int .u8 0, .int .u8 0, .int .u8 0, .int .u8 0, .int .u8 0, .int .u8 0, .int .u8 0, .int .u8 0] 27) none
  have hgw5 := HG4.out.size
  have HG5 := Lib.hid (show w.grownBy W5 none from hW5 ▸ grownBy_old (grownBy_trans HG4.out gn) (grownBy_setRow _ W4.heap.size (cellsB z)) (by omega))
  have HX5_5 := Lib.hid (show Blk W5 W4.heap.size 27 z from hW5 ▸ (HNEW.out W4).row z)
  have hc1 := HX1_4.out.lt
  have HX1_5 := Lib.hid (show Blk W5 v1.heap.size 27 z from hW5 ▸ (HX1_4.out.grown gn (by simp)).rowNe (cellsB z) (by omega))
  have hc2 := HX2_4.out.lt
  have HX2_5 := Lib.hid (show Blk W5 v2.heap.size 27 z from hW5 ▸ (HX2_4.out.grown gn (by simp)).rowNe (cellsB z) (by omega))
  have hc3 := HX3_4.out.lt
  have HX3_5 := Lib.hid (show Blk W5 v3.heap.size 27 z from hW5 ▸ (HX3_4.out.grown gn (by simp)).rowNe (cellsB z) (by omega))
  have hc4 := HX4_4.out.lt
  have HX4_5 := Lib.hid (show Blk W5 v4.heap.size 27 z from hW5 ▸ (HX4_4.out.grown gn (by simp)).rowNe (cellsB z) (by omega))
  go_upto_region 7 with (refine wpList_store_row rfl 27 _ _ rfl W4.heap.size (cellsB z) rfl (by rw [HZ16.out]; rfl) 27 _ HN5.out (by rw [size_block, cellsB_size, hzl]) rfl (cellsB_one _) ?_)
  rw [← hW5]
  clear hW5
  go_wp2_with (first | (refine wpList_load_rowW (by rfl) 27 _ rfl v1.heap.size rfl 27 (cellsB z) (0, 0) _ HX1_5.out Try.underlying27 rfl (by rw [size_block, cellsB_size, hzl]) ?_) | (refine wpList_load_rowW (by rfl) 27 _ rfl v2.heap.size rfl 27 (cellsB z) (0, 0) _ HX2_5.out Try.underlying27 rfl (by rw [size_block, cellsB_size, hzl]) ?_) | (refine wpList_load_rowW (by rfl) 27 _ rfl v3.heap.size rfl 27 (cellsB z) (0, 0) _ HX3_5.out Try.underlying27 rfl (by rw [size_block, cellsB_size, hzl]) ?_) | (refine wpList_load_rowW (by rfl) 27 _ rfl v4.heap.size rfl 27 (cellsB z) (0, 0) _ HX4_5.out Try.underlying27 rfl (by rw [size_block, cellsB_size, hzl]) ?_) | (refine wpList_load_rowW (by rfl) 27 _ rfl W4.heap.size rfl 27 (cellsB z) (0, 0) _ HX5_5.out Try.underlying27 rfl (by rw [size_block, cellsB_size, hzl]) ?_))
  refine (awake_n _).mono ?_
  rintro e w' ⟨rfl, hg⟩
  have HGF := Lib.hid (grownBy_trans HG5.out hg)
  clear hg
  go_wp2_with fail
  go_ret
  exact ⟨rfl, HGF.out⟩

end Go.Proofs.Ytlnmglddialhjaa
