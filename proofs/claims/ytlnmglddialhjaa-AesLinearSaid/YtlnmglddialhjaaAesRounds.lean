/- aes.Behind; the law AesRounds. -/
import Derived.Test.YtlnmglddialhjaaAesRefBeh
import Derived.Test.YtlnmglddialhjaaAesAwake
import Derived.Test.YtlnmglddialhjaaRegX
namespace Go.Proofs.Ytlnmglddialhjaa
open Go.RowKit

section
variable {P : Program}
theorem wp_call_op {o : Oper} {a : Act} {w w1 : World} {K : Act → World → Prop} {Q : Exit → Act → World → Prop} {f : FuncId} {args : Array Value} (h : (execOp a.eval o).run P w = .ok (.enter f args) w1)
    (hc : Calls P f args w1 fun e w' => ∃ v, e = .returned v ∧ K (a.put o.dst v) w') : o.wp P a w K Q := by
  unfold Oper.wp
  rw [h]
  simp only [Oper.upon]
  refine hc.mono ?_
  rintro e w' ⟨v, rfl, hk⟩
  exact hk
theorem wp_val_op {o : Oper} {a : Act} {w w1 : World} {K : Act → World → Prop} {Q : Exit → Act → World → Prop} {v : Value} (h : (execOp a.eval o).run P w = .ok (.value v) w1) (hk : K (a.put o.dst v) w1) : o.wp P a w K Q := by
  unfold Oper.wp
  rw [h, Oper.upon_value]
  exact hk
end

/-- what stands in aes.Behind -/
def BeS (w : World) (gk gb g6 : Nat) (k b : List UInt8) (u : World) : Prop := w.grownBy u none ∧ Blk u gk 26 k ∧ Blk u gb 27 b ∧ ∃ z, z.length = 16 ∧ Blk u g6 27 z
theorem BeS.clo (w : World) (gk gb g6 : Nat) (k b : List UInt8) : Clo (BeS w gk gb g6 k b) := fun _ _ h hg => by
  obtain ⟨h1, h2, h3, z, hz, h4⟩ := h
  exact ⟨grownBy_trans h1 hg, h2.grown hg (by simp), h3.grown hg (by simp), z, hz, h4.grown hg (by simp)⟩
theorem BeS.clo2 (w : World) (gk gb g6 gc : Nat) (k b kk : List UInt8) : Clo (fun u => BeS w gk gb g6 k b u ∧ CipAt u gc kk) := fun _ _ h hg => ⟨BeS.clo w gk gb g6 k b _ _ h.1 hg, h.2.grown hg⟩
theorem BeS.clo3 (w : World) (gk gb g6 gc : Nat) (k b kk y : List UInt8) : Clo (fun u => (BeS w gk gb g6 k b u ∧ CipAt u gc kk) ∧ Blk u g6 27 y) := fun _ _ h hg => ⟨BeS.clo2 w gk gb g6 gc k b kk _ _ h.1 hg, h.2.grown hg (by simp)⟩

set_option maxRecDepth 100000 in
set_option maxHeartbeats 4000000 in
theorem behindIn_n (k b : List UInt8) (R : Nat) (hkl : k.length = 16) (hb : b.length = 16) (hR : R ≤ 10) (w : World) :
    Calls Try.prog 41 #[aggB k, aggB b, .int .i64 (R : Int)] w fun e w' => e = .returned (.tuple #[.agg (cellsB (encS (keysL k) b R)), .int .i64 0]) ∧ w.grownBy w' none := by
  have hnew := fun w => new_n k hkl w
  have hk := keysL_len k
  have hyl := encS_len hk hb R hR
  have hbe := fun (gc : Nat) (w1 : World) (h : CipAt w1 gc (keysL k)) => behind_n gc R (keysL k) b hk hb hR w1 h
  obtain ⟨y, hy⟩ : ∃ y, y = encS (keysL k) b R := ⟨_, rfl⟩
  rw [← hy] at hyl hbe ⊢
  obtain ⟨kk, hkk⟩ : ∃ kk, kk = keysL k := ⟨_, rfl⟩
  rw [← hkk] at hnew hbe
  clear hkk hk hy
  obtain ⟨ib, hib, hibz, hibs⟩ := block_info
  have IB := Lib.hid hib
  have IBZ := Lib.hid hibz
  clear hib hibz hibs
  have HN := Lib.hid hnew
  have HBE := Lib.hid hbe
  clear hnew hbe
  unfold aggB at HN HBE ⊢
  have hR0 : ¬ ((R : Int) < 0) := by omega
  have hR1 : ¬ (10 < (R : Int)) := by omega
  go_enter Try.func41, Try.ntmps41
  go_upto_region 3 with (first | (refine wpList_boxed (T := 26) rfl rfl (cellsB k) rfl ?_; intro wa hsa hga hra; have HSa := Lib.hid hsa; have HGa := Lib.hid hga; have HRa := Lib.hid (show Blk wa w.heap.size 26 k from hra); clear hsa hga hra) | (refine wpList_boxed (T := 27) rfl rfl (cellsB b) rfl ?_; intro wb hsb hgb hrb; have HSb := Lib.hid hsb; have HGb := Lib.hid (grownBy_trans HGa.out hgb); have HKb := Lib.hid (HRa.out.grown hgb (by simp)); have HRb := Lib.hid (show Blk wb wa.heap.size 27 b from hrb); clear hsb hgb hrb) | (refine wpList_made rfl rfl IB.out IBZ.out ?_; intro wc hsc hgc hrc; have HGc := Lib.hid (grownBy_trans HGb.out hgc); have HKc := Lib.hid (HKb.out.grown hgc (by simp)); have HBc := Lib.hid (HRb.out.grown hgc (by simp)); have HRc := Lib.hid (show Blk wc wb.heap.size 27 z16 from hrc); clear hsc hgc hrc))
  have hd : w.heap.size < wa.heap.size ∧ wa.heap.size < wb.heap.size ∧ wb.heap.size < wc.heap.size := by
    have h1 := HSa.out
    have h2 := HSb.out
    have h3 := HRc.out.lt
    omega
  have hS0 : BeS w w.heap.size wa.heap.size wb.heap.size k b wc := ⟨HGc.out, HKc.out, HBc.out, z16, rfl, HRc.out⟩
  have HS0 := Lib.hid hS0
  clear hS0
  obtain ⟨gk, hgk⟩ : ∃ g, g = w.heap.size := ⟨_, rfl⟩
  obtain ⟨gb, hgb⟩ : ∃ g, g = wa.heap.size := ⟨_, rfl⟩
  obtain ⟨g6, hg6⟩ : ∃ g, g = wb.heap.size := ⟨_, rfl⟩
  rw [← hgb, ← hg6] at hd
  rw [← hgk, ← hgb, ← hg6] at HS0
  rw [← hgk] at hd
  have HWK := Lib.hid hgk
  rw [← hgk, ← hgb, ← hg6]
  have HD := Lib.hid hd
  clear hgk hgb hg6 hd HGc HKc HBc HRc HKb HRb HGb HRa HGa HSa HSb
  refine wp_regionX (BeS w gk gb g6 k b) 6 (by kernel_rfl) (BeS.clo w gk gb g6 k b _ _ HS0.out (grownBy_drewN _ 1 none)) ?_
  refine wpX_take 0 (v := .agg (cellsB k)) (oi := { dst := some 15, op := Op.load 26 (Operand.tmp 3), type := 26, pos := "aes.go:216", after := #[], guard := none }) (oL := { dst := some 7, op := Op.assign (Operand.const (Value.int IntKind.i64 0)), type := 40, pos := "aes.go:216", after := #[{ on := 5, ground := Ground.chain }, { on := 0, ground := Ground.phase }, { on := 1, ground := Ground.phase }, { on := 2, ground := Ground.phase }, { on := 3, ground := Ground.phase }, { on := 4, ground := Ground.phase }, { on := 5, ground := Ground.phase }], guard := none }) (BeS.clo w gk gb g6 k b) rfl rfl rfl (by kernel_rfl) (by kernel_rfl) (by kernel_rfl) (by kernel_rfl) (by kernel_rfl) (fun _ _ _ h => h) (YG.val (by rfl) (fun u hS => run_load_op u _ 26 _ rfl gk rfl 26 (cellsB k) (hS.2.1) Try.underlying26 rfl (by rw [size_key, cellsB_size, hkl]))) ?_
  simp only [Act.put, List.setIfInBounds_toArray, List.set_cons_zero, List.set_cons_succ]
  refine wpX_take 2 (v := .agg (cellsB b)) (oi := { dst := some 17, op := Op.load 27 (Operand.tmp 4), type := 27, pos := "aes.go:216", after := #[], guard := none }) (oL := { dst := some 7, op := Op.assign (Operand.const (Value.int IntKind.i64 0)), type := 40, pos := "aes.go:216", after := #[{ on := 5, ground := Ground.chain }, { on := 0, ground := Ground.phase }, { on := 1, ground := Ground.phase }, { on := 2, ground := Ground.phase }, { on := 3, ground := Ground.phase }, { on := 4, ground := Ground.phase }, { on := 5, ground := Ground.phase }], guard := none }) (BeS.clo w gk gb g6 k b) rfl rfl rfl (by kernel_rfl) (by kernel_rfl) (by kernel_rfl) (by kernel_rfl) (by kernel_rfl) (fun _ _ _ h => h) (YG.val (by rfl) (fun u hS => run_load_op u _ 27 _ rfl gb rfl 27 (cellsB b) (hS.2.2.1) Try.underlying27 rfl (by rw [size_block, cellsB_size, hb]))) ?_
  simp only [Act.put, List.setIfInBounds_toArray, List.set_cons_zero, List.set_cons_succ]
  refine wpX_take 3 (v := .int .i64 (R : Int)) (oi := { dst := some 18, op := Op.move (Operand.tmp 2), type := 3, pos := "aes.go:216", after := #[], guard := none }) (oL := { dst := some 7, op := Op.assign (Operand.const (Value.int IntKind.i64 0)), type := 40, pos := "aes.go:216", after := #[{ on := 5, ground := Ground.chain }, { on := 0, ground := Ground.phase }, { on := 1, ground := Ground.phase }, { on := 2, ground := Ground.phase }, { on := 3, ground := Ground.phase }, { on := 4, ground := Ground.phase }, { on := 5, ground := Ground.phase }], guard := none }) (BeS.clo w gk gb g6 k b) rfl rfl rfl (by kernel_rfl) (by kernel_rfl) (by kernel_rfl) (by kernel_rfl) (by kernel_rfl) (fun _ _ _ h => h) (YG.val (by rfl) (fun _ _ => rfl)) ?_
  simp only [Act.put, List.setIfInBounds_toArray, List.set_cons_zero, List.set_cons_succ]
  refine wpX_step 1 (o := { dst := some 16, op := Op.call { callee := Callee.value (Operand.func 45), args := #[Operand.tmp 15], argTypes := #[26] }, type := 50, pos := "aes.go:216", after := #[{ on := 0, ground := Ground.data }], guard := none }) rfl rfl (by kernel_rfl) (by rfl) (fun u2 hS2 K hK => ?_)
  have HK := Lib.hid hK
  have HS2 := Lib.hid hS2
  clear hK hS2
  refine wp_call_op (f := 45) (args := #[.agg (cellsB k)]) (w1 := u2) (by go_simp) ((HN.out u2).mono ?_)
  rintro e u3 ⟨gc, rfl, hgc, hcip, hg⟩
  have hgc6 : g6 < gc := by
    obtain ⟨_, _, _, z, _, h4⟩ := HS2.out
    have := h4.lt
    omega
  have HGC := Lib.hid hgc6
  refine ⟨_, rfl, HK.out (fun u => BeS w gk gb g6 k b u ∧ CipAt u gc kk) _ _ ⟨BeS.clo w gk gb g6 k b _ _ HS2.out hg, hcip⟩ (fun u h => h.1) (BeS.clo2 w gk gb g6 gc k b kk) ?_⟩
  simp only [Act.put, List.setIfInBounds_toArray, List.set_cons_zero, List.set_cons_succ]
  clear hg hcip hgc hgc6 HS2 HK
  refine wpX_take 4 (v := .agg (cellsB y)) (oi := { dst := some 19, op := Op.call { callee := Callee.value (Operand.func 60), args := #[Operand.tmp 16, Operand.tmp 17, Operand.tmp 18], argTypes := #[50, 27, 3] }, type := 27, pos := "aes.go:216", after := #[{ on := 1, ground := Ground.data }, { on := 2, ground := Ground.data }, { on := 3, ground := Ground.data }, { on := 1, ground := Ground.chain }], guard := none }) (oL := { dst := some 7, op := Op.assign (Operand.const (Value.int IntKind.i64 0)), type := 40, pos := "aes.go:216", after := #[{ on := 5, ground := Ground.chain }, { on := 0, ground := Ground.phase }, { on := 1, ground := Ground.phase }, { on := 2, ground := Ground.phase }, { on := 3, ground := Ground.phase }, { on := 4, ground := Ground.phase }, { on := 5, ground := Ground.phase }], guard := none }) (BeS.clo2 w gk gb g6 gc k b kk) rfl rfl rfl (by kernel_rfl) (by kernel_rfl) (by kernel_rfl) (by kernel_rfl) (by kernel_rfl) (fun _ _ _ h => h) (YG.call (f := 60) (args := #[.pointer (some ⟨gc, 0, none⟩), .agg (cellsB b), .int .i64 (R : Int)]) (by rfl) (fun w => by go_simp) (fun u hS => HBE.out gc u hS.2)) ?_
  simp only [Act.put, List.setIfInBounds_toArray, List.set_cons_zero, List.set_cons_succ]
  refine wpX_step 5 (o := { dst := none, op := Op.store 27 (Operand.tmp 6) (Operand.tmp 19), type := 0, pos := "aes.go:216", after := #[{ on := 4, ground := Ground.data }, { on := 4, ground := Ground.chain }, { on := 0, ground := Ground.phase }, { on := 1, ground := Ground.phase }, { on := 2, ground := Ground.phase }, { on := 3, ground := Ground.phase }, { on := 4, ground := Ground.phase }], guard := none }) rfl rfl (by kernel_rfl) (by rfl) (fun u5 hS5 K hK => ?_)
  obtain ⟨⟨a1, a2, a3, z, hzl, a4⟩, a5⟩ := hS5
  refine wp_store_row 27 _ _ rfl g6 (cellsB y) rfl rfl 27 _ a4 (by rw [size_block, cellsB_size, hyl]) (by rw [cellsB_size, cellsB_size, hyl, hzl]) (cellsB_one _) ?_
  have hset := grownBy_setRow u5 g6 (cellsB y)
  refine hK (fun u => (BeS w gk gb g6 k b u ∧ CipAt u gc kk) ∧ Blk u g6 27 y) _ _ ⟨⟨⟨grownBy_old a1 hset (by have := HD.out; have := HWK.out; omega), a2.grown hset (by have := HD.out; simp; omega), a3.grown hset (by have := HD.out; simp; omega), y, hyl, a4.row y⟩, a5.far hset (by have := HGC.out; omega)⟩, a4.row y⟩ (fun u h => h.1) (BeS.clo3 w gk gb g6 gc k b kk y) ?_
  simp only [Act.put, List.setIfInBounds_toArray, List.set_cons_zero, List.set_cons_succ]
  clear hset a1 a2 a3 a4 a5 hK hzl
  refine wpX_last (oL := { dst := some 7, op := Op.assign (Operand.const (Value.int IntKind.i64 0)), type := 40, pos := "aes.go:216", after := #[{ on := 5, ground := Ground.chain }, { on := 0, ground := Ground.phase }, { on := 1, ground := Ground.phase }, { on := 2, ground := Ground.phase }, { on := 3, ground := Ground.phase }, { on := 4, ground := Ground.phase }, { on := 5, ground := Ground.phase }], guard := none }) rfl (by kernel_rfl) (by kernel_rfl) (by rfl) (fun u6 hS6 K6 hK6 => ?_)
  refine wp_val_op (v := .int .i64 0) (w1 := u6) (by rfl) (hK6 _ _ ?_)
  simp only [Act.put, List.setIfInBounds_toArray, List.set_cons_zero, List.set_cons_succ]
  have HG6 := Lib.hid hS6.1.1.1
  have HR6 := Lib.hid hS6.2
  clear hS6 hK6
  go_wp2_with fail
  refine bodyPost_ret (v := .tuple #[.agg (cellsB y), .int .i64 0]) (results_ct rfl _ _ g6 27 (cellsB y) (0, 0) _ _ rfl rfl HR6.out Try.underlying27 rfl (by rw [size_block, cellsB_size, hyl])) rfl ⟨rfl, ?_⟩
  exact HG6.out

set_option maxRecDepth 100000 in
set_option maxHeartbeats 4000000 in
theorem behindOut_n (k b : List UInt8) (R : Int) (hR : R < 0 ∨ 10 < R) (w : World) :
    Calls Try.prog 41 #[aggB k, aggB b, .int .i64 R] w fun e w' => e = .returned (.tuple #[.agg (cellsB z16), .int .i64 30]) ∧ w.grownBy w' none := by
  obtain ⟨ib, hib, hibz, hibs⟩ := block_info
  have IB := Lib.hid hib
  have IBZ := Lib.hid hibz
  clear hib hibz hibs
  unfold aggB
  rcases hR with hR | hR
  · go_enter Try.func41, Try.ntmps41
    go_wp2_with (first | (refine wpList_boxed (T := 26) rfl rfl (cellsB k) rfl ?_; intro wa hsa hga hra; have HSa := Lib.hid hsa; have HGa := Lib.hid hga; have HRa := Lib.hid (show Blk wa w.heap.size 26 k from hra); clear hsa hga hra) | (refine wpList_boxed (T := 27) rfl rfl (cellsB b) rfl ?_; intro wb hsb hgb hrb; have HSb := Lib.hid hsb; have HGb := Lib.hid (grownBy_trans HGa.out hgb); have HKb := Lib.hid (HRa.out.grown hgb (by simp)); have HRb := Lib.hid (show Blk wb wa.heap.size 27 b from hrb); clear hsb hgb hrb) | (refine wpList_made rfl rfl IB.out IBZ.out ?_; intro wc hsc hgc hrc; have HGc := Lib.hid (grownBy_trans HGb.out hgc); have HKc := Lib.hid (HKb.out.grown hgc (by simp)); have HBc := Lib.hid (HRb.out.grown hgc (by simp)); have HRc := Lib.hid (show Blk wc wb.heap.size 27 z16 from hrc); clear hsc hgc hrc) | (refine wpList_putrow rfl rfl wb.heap.size rfl (cellsB z16) rfl HRc.out (by rw [size_block, cellsB_size]; rfl) rfl (cellsB_one _) ?_; intro wd hgP hrP; have HGd := Lib.hid (grownBy_old HGc.out hgP (Nat.le_trans HGa.out.size (by have := HSb.out; omega))); have HRd := Lib.hid hrP; clear hgP hrP))
    refine bodyPost_ret (v := .tuple #[.agg (cellsB z16), .int .i64 30]) (results_ct rfl _ _ wb.heap.size 27 (cellsB z16) (0, 0) _ _ rfl rfl HRd.out Try.underlying27 rfl (by rw [size_block, cellsB_size]; rfl)) rfl ⟨rfl, ?_⟩
    exact HGd.out
  · go_enter Try.func41, Try.ntmps41
    go_wp2_with (first | (refine wpList_boxed (T := 26) rfl rfl (cellsB k) rfl ?_; intro wa hsa hga hra; have HSa := Lib.hid hsa; have HGa := Lib.hid hga; have HRa := Lib.hid (show Blk wa w.heap.size 26 k from hra); clear hsa hga hra) | (refine wpList_boxed (T := 27) rfl rfl (cellsB b) rfl ?_; intro wb hsb hgb hrb; have HSb := Lib.hid hsb; have HGb := Lib.hid (grownBy_trans HGa.out hgb); have HKb := Lib.hid (HRa.out.grown hgb (by simp)); have HRb := Lib.hid (show Blk wb wa.heap.size 27 b from hrb); clear hsb hgb hrb) | (refine wpList_made rfl rfl IB.out IBZ.out ?_; intro wc hsc hgc hrc; have HGc := Lib.hid (grownBy_trans HGb.out hgc); have HKc := Lib.hid (HKb.out.grown hgc (by simp)); have HBc := Lib.hid (HRb.out.grown hgc (by simp)); have HRc := Lib.hid (show Blk wc wb.heap.size 27 z16 from hrc); clear hsc hgc hrc) | (refine wpList_putrow rfl rfl wb.heap.size rfl (cellsB z16) rfl HRc.out (by rw [size_block, cellsB_size]; rfl) rfl (cellsB_one _) ?_; intro wd hgP hrP; have HGd := Lib.hid (grownBy_old HGc.out hgP (Nat.le_trans HGa.out.size (by have := HSb.out; omega))); have HRd := Lib.hid hrP; clear hgP hrP))
    refine bodyPost_ret (v := .tuple #[.agg (cellsB z16), .int .i64 30]) (results_ct rfl _ _ wb.heap.size 27 (cellsB z16) (0, 0) _ _ rfl rfl HRd.out Try.underlying27 rfl (by rw [size_block, cellsB_size]; rfl)) rfl ⟨rfl, ?_⟩
    exact HGd.out

set_option maxRecDepth 100000 in
set_option maxHeartbeats 4000000 in
theorem rounds_walk (k b : List UInt8) (R : Int) (hkl : k.length = 16) (hb : b.length = 16) (w : World) : Calls Try.prog 7 #[aggB k, aggB b, .int .i64 R] w fun e w' => e = .returned (.bool true) ∧ w.grownBy w' none := by
  have hm1 : Try.prog.eqGuardType Try.prog.depth 27 = false := by kernel_rfl
  obtain ⟨ib, hib, hibz, hibs⟩ := block_info
  have IB := Lib.hid hib
  have IBZ := Lib.hid hibz
  have IBS := Lib.hid hibs
  clear hib hibz hibs
  by_cases hR : R < 0 ∨ 10 < R
  · have hbe := fun w => behindOut_n k b R hR w
    have HBE := Lib.hid hbe
    clear hbe
    unfold aggB at HBE ⊢
    have hq : ∀ w1, (binOp .eql 27 (.agg (cellsB z16)) (.agg #[.int .u8 0, .int .u8 0, .int .u8 0, .int .u8 0, .int .u8 0, .int .u8 0, .int .u8 0, .int .u8 0, .int .u8 0, .int .u8 0, .int .u8 0, .int .u8 0, .int .u8 0, .int .u8 0, .int .u8 0, .int .u8 0])).run Try.prog w1 = .ok (.bool true) w1 := fun w1 => same_block z16 rfl w1
    obtain ⟨zz, hzz⟩ : ∃ zz, zz = z16 := ⟨_, rfl⟩
    have hzl : zz.length = 16 := by rw [hzz]; rfl
    rw [← hzz] at HBE hq
    clear hzz
    rcases hR with hR | hR
    · go_enter Try.func7, Try.ntmps7
      go_wp2_with (first | (refine wpList_boxed (T := 26) rfl rfl (cellsB k) rfl ?_; intro wa hsa hga hra; have HSa := Lib.hid hsa; have HGa := Lib.hid hga; have HRa := Lib.hid (show Blk wa w.heap.size 26 k from hra); clear hsa hga hra) | (refine wpList_boxed (T := 27) rfl rfl (cellsB b) rfl ?_; intro wb hsb hgb hrb; have HSb := Lib.hid hsb; have HGb := Lib.hid (grownBy_trans HGa.out hgb); have HKb := Lib.hid (HRa.out.grown hgb (by simp)); have HRb := Lib.hid (show Blk wb wa.heap.size 27 b from hrb); clear hsb hgb hrb) | (refine wpList_load_rowW (by rfl) 26 _ rfl (w.heap.size) rfl 26 (cellsB k) (0, 0) _ HKb.out Try.underlying26 rfl (by rw [size_key, cellsB_size, hkl]) ?_) | (refine wpList_load_rowW (by rfl) 27 _ rfl (wa.heap.size) rfl 27 (cellsB b) (0, 0) _ HRb.out Try.underlying27 rfl (by rw [size_block, cellsB_size, hb]) ?_))
      refine (HBE.out _).mono ?_
      rintro e w1 ⟨rfl, hg1⟩
      have HG1 := Lib.hid (grownBy_trans HGb.out hg1)
      clear hg1
      go_wp2_with (first | (refine wpList_fresh rfl rfl rfl rfl rfl IB.out IBZ.out (by rw [IBS.out, cells_agg, cellsB_size]; rfl) (cellsB zz) rfl rfl (by rw [cells_agg, cellsB_size, cellsB_size, hzl]; rfl) (cellsB_one _) ?_; intro w2 hsn hgn hrn; clear hsn; have HG2 := Lib.hid (grownBy_trans HG1.out hgn); have HR2 := Lib.hid (show Blk w2 w1.heap.size 27 zz from hrn); clear hgn hrn) | (refine wpList_load_rowW (by rfl) 27 _ rfl (w1.heap.size) rfl 27 (cellsB zz) (0, 0) _ HR2.out Try.underlying27 rfl (by rw [size_block, cellsB_size, hzl]) ?_))
      refine (awake_n _).mono ?_
      rintro e w3 ⟨rfl, hg3⟩
      have HG3 := Lib.hid (grownBy_trans HG2.out hg3)
      clear hg3
      go_wp2_with fail
      refine bodyPost_ret (by simp [*, results, Try.results7, go_sem]; try rfl) rfl ?_
      exact ⟨rfl, HG3.out⟩
    · go_enter Try.func7, Try.ntmps7
      go_wp2_with (first | (refine wpList_boxed (T := 26) rfl rfl (cellsB k) rfl ?_; intro wa hsa hga hra; have HSa := Lib.hid hsa; have HGa := Lib.hid hga; have HRa := Lib.hid (show Blk wa w.heap.size 26 k from hra); clear hsa hga hra) | (refine wpList_boxed (T := 27) rfl rfl (cellsB b) rfl ?_; intro wb hsb hgb hrb; have HSb := Lib.hid hsb; have HGb := Lib.hid (grownBy_trans HGa.out hgb); have HKb := Lib.hid (HRa.out.grown hgb (by simp)); have HRb := Lib.hid (show Blk wb wa.heap.size 27 b from hrb); clear hsb hgb hrb) | (refine wpList_load_rowW (by rfl) 26 _ rfl (w.heap.size) rfl 26 (cellsB k) (0, 0) _ HKb.out Try.underlying26 rfl (by rw [size_key, cellsB_size, hkl]) ?_) | (refine wpList_load_rowW (by rfl) 27 _ rfl (wa.heap.size) rfl 27 (cellsB b) (0, 0) _ HRb.out Try.underlying27 rfl (by rw [size_block, cellsB_size, hb]) ?_))
      refine (HBE.out _).mono ?_
      rintro e w1 ⟨rfl, hg1⟩
      have HG1 := Lib.hid (grownBy_trans HGb.out hg1)
      clear hg1
      go_wp2_with (first | (refine wpList_fresh rfl rfl rfl rfl rfl IB.out IBZ.out (by rw [IBS.out, cells_agg, cellsB_size]; rfl) (cellsB zz) rfl rfl (by rw [cells_agg, cellsB_size, cellsB_size, hzl]; rfl) (cellsB_one _) ?_; intro w2 hsn hgn hrn; clear hsn; have HG2 := Lib.hid (grownBy_trans HG1.out hgn); have HR2 := Lib.hid (show Blk w2 w1.heap.size 27 zz from hrn); clear hgn hrn) | (refine wpList_load_rowW (by rfl) 27 _ rfl (w1.heap.size) rfl 27 (cellsB zz) (0, 0) _ HR2.out Try.underlying27 rfl (by rw [size_block, cellsB_size, hzl]) ?_))
      refine (awake_n _).mono ?_
      rintro e w3 ⟨rfl, hg3⟩
      have HG3 := Lib.hid (grownBy_trans HG2.out hg3)
      clear hg3
      go_wp2_with fail
      refine bodyPost_ret (by simp [*, results, Try.results7, go_sem]; try rfl) rfl ?_
      exact ⟨rfl, HG3.out⟩
  · obtain ⟨M, rfl⟩ : ∃ M : Nat, R = (M : Int) := ⟨R.toNat, by omega⟩
    have hM : M ≤ 10 := by omega
    have hR0 : ¬ ((M : Int) < 0) := by omega
    have hR1 : ¬ (10 < (M : Int)) := by omega
    clear hR
    have hbe := fun w => behindIn_n k b M hkl hb hM w
    have hrb := fun w => refBehind_n k b M hkl hb hM w
    have hyl := encS_len (keysL_len k) hb M hM
    obtain ⟨y, hy⟩ : ∃ y, y = encS (keysL k) b M := ⟨_, rfl⟩
    rw [← hy] at hbe hrb hyl
    have HBE := Lib.hid hbe
    have HRB := Lib.hid hrb
    have HQ := Lib.hid (fun w1 : World => same_block y hyl w1)
    have HM1 := Lib.hid hm1
    clear hbe hrb hy
    unfold aggB at HBE HRB ⊢
    go_enter Try.func7, Try.ntmps7
    go_wp2_with (first | (refine wpList_boxed (T := 26) rfl rfl (cellsB k) rfl ?_; intro wa hsa hga hra; have HSa := Lib.hid hsa; have HGa := Lib.hid hga; have HRa := Lib.hid (show Blk wa w.heap.size 26 k from hra); clear hsa hga hra) | (refine wpList_boxed (T := 27) rfl rfl (cellsB b) rfl ?_; intro wb hsb hgb hrb; have HSb := Lib.hid hsb; have HGb := Lib.hid (grownBy_trans HGa.out hgb); have HKb := Lib.hid (HRa.out.grown hgb (by simp)); have HRb := Lib.hid (show Blk wb wa.heap.size 27 b from hrb); clear hsb hgb hrb) | (refine wpList_load_rowW (by rfl) 26 _ rfl (w.heap.size) rfl 26 (cellsB k) (0, 0) _ HKb.out Try.underlying26 rfl (by rw [size_key, cellsB_size, hkl]) ?_) | (refine wpList_load_rowW (by rfl) 27 _ rfl (wa.heap.size) rfl 27 (cellsB b) (0, 0) _ HRb.out Try.underlying27 rfl (by rw [size_block, cellsB_size, hb]) ?_))
    refine (HBE.out _).mono ?_
    rintro e w1 ⟨rfl, hg1⟩
    have HG1 := Lib.hid (grownBy_trans HGb.out hg1)
    have HK1 := Lib.hid (HKb.out.grown hg1 (by simp))
    have HB1 := Lib.hid (HRb.out.grown hg1 (by simp))
    clear hg1
    go_upto_region 4 with (first | (refine wpList_fresh rfl rfl rfl rfl rfl IB.out IBZ.out (by rw [IBS.out, cells_agg, cellsB_size]; rfl) (cellsB y) rfl rfl (by rw [cells_agg, cellsB_size, cellsB_size, hyl]; rfl) (cellsB_one _) ?_; intro w2 hsn hgn hrn; clear hsn; have HG2 := Lib.hid (grownBy_trans HG1.out hgn); have HR2 := Lib.hid (show Blk w2 w1.heap.size 27 y from hrn); have HK2 := Lib.hid (HK1.out.grown hgn (by simp)); have HB2 := Lib.hid (HB1.out.grown hgn (by simp)); clear hgn hrn))
    have HKK : Hid (∀ u v : World, (w.grownBy u none ∧ Blk u w.heap.size 26 k ∧ Blk u wa.heap.size 27 b ∧ Blk u w1.heap.size 27 y) → u.grownBy v none → (w.grownBy v none ∧ Blk v w.heap.size 26 k ∧ Blk v wa.heap.size 27 b ∧ Blk v w1.heap.size 27 y)) :=
      Lib.hid (fun u v h hg => ⟨grownBy_trans h.1 hg, h.2.1.grown hg (by simp), h.2.2.1.grown hg (by simp), h.2.2.2.grown hg (by simp)⟩)
    refine wp_regionS (fun u => w.grownBy u none ∧ Blk u w.heap.size 26 k ∧ Blk u wa.heap.size 27 b ∧ Blk u w1.heap.size 27 y) (by kernel_rfl) ⟨grownBy_trans HG2.out (grownBy_drewN w2 1 none), HK2.out, HB2.out, HR2.out⟩ ?_
    refine wpS_take 0 (v := .agg (cellsB y)) (oi := { dst := some 32, op := Op.load 27 (Operand.tmp 7), type := 27, pos := "law.go:41", after := #[], guard := none }) rfl (by kernel_rfl) (by kernel_rfl) (by kernel_rfl) (fun _ _ _ h => h) (YS.val (by rfl) (fun u hS => run_load_op u _ 27 _ rfl (w1.heap.size) rfl 27 (cellsB y) (hS.2.2.2) Try.underlying27 rfl (by rw [size_block, cellsB_size, hyl]))) ?_
    simp only [Act.put, List.setIfInBounds_toArray, List.set_cons_zero, List.set_cons_succ]
    refine wpS_take 1 (v := .agg (cellsB k)) (oi := { dst := some 33, op := Op.load 26 (Operand.tmp 3), type := 26, pos := "law.go:41", after := #[], guard := none }) rfl (by kernel_rfl) (by kernel_rfl) (by kernel_rfl) (fun _ _ _ h => h) (YS.val (by rfl) (fun u hS => run_load_op u _ 26 _ rfl (w.heap.size) rfl 26 (cellsB k) (hS.2.1) Try.underlying26 rfl (by rw [size_key, cellsB_size, hkl]))) ?_
    simp only [Act.put, List.setIfInBounds_toArray, List.set_cons_zero, List.set_cons_succ]
    refine wpS_take 2 (v := .agg (cellsB b)) (oi := { dst := some 34, op := Op.load 27 (Operand.tmp 4), type := 27, pos := "law.go:41", after := #[], guard := none }) rfl (by kernel_rfl) (by kernel_rfl) (by kernel_rfl) (fun _ _ _ h => h) (YS.val (by rfl) (fun u hS => run_load_op u _ 27 _ rfl (wa.heap.size) rfl 27 (cellsB b) (hS.2.2.1) Try.underlying27 rfl (by rw [size_block, cellsB_size, hb]))) ?_
    simp only [Act.put, List.setIfInBounds_toArray, List.set_cons_zero, List.set_cons_succ]
    refine wpS_take 3 (v := .int .i64 (M : Int)) (oi := { dst := some 35, op := Op.move (Operand.tmp 2), type := 3, pos := "law.go:41", after := #[], guard := none }) rfl (by kernel_rfl) (by kernel_rfl) (by kernel_rfl) (fun _ _ _ h => h) (YS.val (by rfl) (fun _ _ => rfl)) ?_
    simp only [Act.put, List.setIfInBounds_toArray, List.set_cons_zero, List.set_cons_succ]
    refine wpS_take 4 (v := .agg (cellsB y)) (oi := { dst := some 36, op := Op.call { callee := Callee.value (Operand.func 42), args := #[Operand.tmp 33, Operand.tmp 34, Operand.tmp 35], argTypes := #[26, 27, 3] }, type := 27, pos := "law.go:41", after := #[{ on := 1, ground := Ground.data }, { on := 2, ground := Ground.data }, { on := 3, ground := Ground.data }], guard := none }) rfl (by kernel_rfl) (by kernel_rfl) (by kernel_rfl) (fun _ _ _ h => h) (YS.grow (f := 42) (args := #[.agg (cellsB k), .agg (cellsB b), .int .i64 (M : Int)]) (by rfl) (fun w => by go_simp) HKK.out (fun w => HRB.out w)) ?_
    simp only [Act.put, List.setIfInBounds_toArray, List.set_cons_zero, List.set_cons_succ]
    refine wpS_take 5 (v := .bool true) (oi := { dst := some 37, op := Op.binOp BinOp.eql 27 (Operand.tmp 32) (Operand.tmp 36) 27, type := 4, pos := "law.go:41", after := #[{ on := 0, ground := Ground.data }, { on := 4, ground := Ground.data }], guard := none }) rfl (by kernel_rfl) (by kernel_rfl) (by kernel_rfl) (fun _ _ _ h => h) (YS.val (by rfl) (fun u _ => run_eql_op u _ HM1.out (x := .tmp 32) (y := .tmp 36) rfl (cellsB y) (cellsB y) rfl rfl (HQ.out u))) ?_
    simp only [Act.put, List.setIfInBounds_toArray, List.set_cons_zero, List.set_cons_succ]
    refine wpS_take 6 (v := .bool true) (oi := { dst := some 38, op := Op.move (Operand.tmp 37), type := 4, pos := "law.go:41", after := #[{ on := 5, ground := Ground.data }, { on := 4, ground := Ground.chain }], guard := none }) rfl (by kernel_rfl) (by kernel_rfl) (by kernel_rfl) (fun _ _ _ h => h) (YS.val (by rfl) (fun _ _ => rfl)) ?_
    simp only [Act.put, List.setIfInBounds_toArray, List.set_cons_zero, List.set_cons_succ]
    refine wpS_take 7 (v := .int .i64 0) (oi := { dst := some 39, op := Op.move (Operand.tmp 8), type := 40, pos := "law.go:41", after := #[{ on := 6, ground := Ground.guard }], guard := some (6, true) }) rfl (by kernel_rfl) (by kernel_rfl) (by kernel_rfl) (fun _ _ _ h => h) (YS.val (by rfl) (fun _ _ => rfl)) ?_
    simp only [Act.put, List.setIfInBounds_toArray, List.set_cons_zero, List.set_cons_succ]
    refine wpS_take 8 (v := .bool true) (oi := { dst := some 40, op := Op.binOp BinOp.eql 40 (Operand.tmp 39) (Operand.const (Value.int IntKind.i64 0)) 40, type := 4, pos := "law.go:41", after := #[{ on := 7, ground := Ground.data }, { on := 6, ground := Ground.guard }], guard := some (6, true) }) rfl (by kernel_rfl) (by kernel_rfl) (by kernel_rfl) (fun _ _ _ h => h) (YS.val (by rfl) (fun _ _ => by go_simp)) ?_
    simp only [Act.put, List.setIfInBounds_toArray, List.set_cons_zero, List.set_cons_succ]
    refine wpS_take 9 (v := .bool true) (oi := { dst := some 41, op := Op.pick (Operand.tmp 38) (Operand.tmp 40) (Operand.const (Value.bool false)), type := 4, pos := "law.go:41", after := #[{ on := 6, ground := Ground.data }, { on := 8, ground := Ground.data }], guard := none }) rfl (by kernel_rfl) (by kernel_rfl) (by kernel_rfl) (fun _ _ _ h => h) (YS.val (by rfl) (fun _ _ => rfl)) ?_
    simp only [Act.put, List.setIfInBounds_toArray, List.set_cons_zero, List.set_cons_succ]
    refine wpS_take 10 (v := .bool true) (oi := { dst := some 6, op := Op.assign (Operand.tmp 41), type := 4, pos := "law.go:41", after := #[{ on := 9, ground := Ground.data }, { on := 6, ground := Ground.chain }, { on := 0, ground := Ground.phase }, { on := 1, ground := Ground.phase }, { on := 2, ground := Ground.phase }, { on := 3, ground := Ground.phase }, { on := 4, ground := Ground.phase }, { on := 5, ground := Ground.phase }, { on := 6, ground := Ground.phase }, { on := 7, ground := Ground.phase }, { on := 8, ground := Ground.phase }, { on := 9, ground := Ground.phase }], guard := none }) rfl (by kernel_rfl) (by kernel_rfl) (by kernel_rfl) (fun _ _ _ h => h) (YS.val (by rfl) (fun _ _ => rfl)) ?_
    simp only [Act.put, List.setIfInBounds_toArray, List.set_cons_zero, List.set_cons_succ]
    refine wpS_done (by kernel_rfl) (fun w5 hw5 => ?_) _
    have HW5 := Lib.hid hw5.1
    clear hw5
    go_wp2_with fail
    refine bodyPost_ret (by simp [*, results, Try.results7, go_sem]; try rfl) rfl ?_
    exact ⟨rfl, HW5.out⟩

end Go.Proofs.Ytlnmglddialhjaa
