/- The law CutSegment. -/
import Derived.Test.YtfboddnpkaiifaaCutAwake
import Derived.Test.YtfboddnpkaiifaaCutSegW
import Derived.Test.YtfboddnpkaiifaaRegE
import Derived.Test.YtfboddnpkaiifaaApart2
namespace Go.Proofs.Ytfboddnpkaiifaa
open Go.RowKit

set_option maxRecDepth 100000 in
set_option maxHeartbeats 4000000 in
theorem segment_walk (s : Sh) (hs : s.Wf) (a : Option Addr) (c m : Nat) (ls : List UInt8) (j : Int) (w : World) (ha : BLies w a ls) (hlen : ls.length = m) (hmc : m ≤ c) (hm : m ≤ 2000000) : Calls Try.prog 11 #[s.val, .slice a m c, .int .i64 j] w fun e w' => e = .returned (.bool true) ∧ w.grownBy w' none := by
  have hlo : ((over (m + 70)).take m).length = m := by rw [List.length_take, over_length]; omega
  obtain ⟨lo, hlo2⟩ : ∃ lo, lo = (over (m + 70)).take m := ⟨_, rfl⟩
  rw [← hlo2] at hlo
  have hs1 := fun (a : Option Addr) (c : Nat) (hc : m ≤ c) (w : World) (h : BLies w a ls) => segment_n s hs a c m ls j w h hlen hc
  have hs2 := fun (a : Option Addr) (c : Nat) (hc : m ≤ c) (w : World) (h : BLies w a lo) => segment_n s hs a c m lo j w h hlo hc
  have hr1 := fun (a : Option Addr) (c : Nat) (hc : m ≤ c) (w : World) (h : BLies w a ls) => refSegment_n s hs a c m ls j w h hlen hc
  have hr2 := fun (a : Option Addr) (c : Nat) (hc : m ≤ c) (w : World) (h : BLies w a lo) => refSegment_n s hs a c m lo j w h hlo hc
  have hb1 : (sgR s ls j).length ≤ 2000000 := Nat.le_trans (sgR_len s ls j) (by omega)
  have hb2 : (sgR s lo j).length ≤ 2000000 := Nat.le_trans (sgR_len s lo j) (by omega)
  generalize sgE s m j = E at hs1 hs2 hr1 hr2
  generalize sgR s ls j = R at hs1 hr1 hb1
  generalize sgR s lo j = R2 at hs2 hr2 hb2
  have HB1 := Lib.hid hb1
  have HB2 := Lib.hid hb2
  have HS1 := Lib.hid hs1
  have HSO := Lib.hid hs2
  have HR1 := Lib.hid hr1
  have HRO := Lib.hid hr2
  have HA := Lib.hid ha
  have HLEN := Lib.hid hlen
  have HLO := Lib.hid hlo2
  clear hs1 hs2 hr1 hr2 ha hlen hlo hlo2 hs hb1 hb2
  obtain ⟨k, n, g, z, sg, t, b, l⟩ := s
  unfold Sh.val at HS1 HSO HR1 HRO ⊢
  go_enter Try.func11, Try.ntmps11
  go_wp2_with (first | (refine wpList_boxed rfl rfl #[.int .i64 k, .int .i64 n, .int .i64 g, .int .i64 z, .int .i64 sg, .int .i64 t, .int .i64 b, .int .i64 l] rfl ?_; intro wb hsb hgb hrb; have HG := Lib.hid hgb; have HP := Lib.hid hrb; clear hsb hgb hrb))
  refine (lent_n _ _ _ ls _ (HA.out.grown HG.out) HLEN.out (by omega)).mono ?_
  rintro e w1 ⟨gf, fc, rfl, oF, g⟩
  have hcF := oF.cap.1
  have zF : wb.heap.size ≤ gf := by obtain ⟨g', e, h1, _⟩ := Own.block oF (by omega); injection e with e; injection e with e; subst e; exact h1
  have yF : gf < w1.heap.size := by obtain ⟨g', e, _, h2⟩ := Own.block oF (by omega); injection e with e; injection e with e; subst e; exact h2
  have YF := Lib.hid yF
  have ZF := Lib.hid zF
  have ZB := Lib.hid HG.out.size
  have HP1L := Lib.hid HP.out.lt
  have HF := Lib.hid oF
  clear oF zF yF
  replace HG := Lib.hid (grownBy_trans HG.out g)
  replace HP := Lib.hid (HP.out.grown g)
  clear g
  go_upto_region 2 with fail
  refine wp_regionX (fun u => w1.grownBy u none) 11 (by kernel_rfl) (grownBy_drewN w1 1 none) ?_
  refine wpX_take 0 (v := .agg #[.int .i64 k, .int .i64 n, .int .i64 g, .int .i64 z, .int .i64 sg, .int .i64 t, .int .i64 b, .int .i64 l]) (oi := { dst := some 21, op := Op.load 47 (Operand.tmp 3), type := 47, pos := "law.go:46", after := #[], guard := none }) (oL := { dst := some 9, op := Op.assign (Operand.tmp 29), type := 25, pos := "law.go:46", after := #[{ on := 9, ground := Ground.data }, { on := 10, ground := Ground.chain }, { on := 0, ground := Ground.phase }, { on := 1, ground := Ground.phase }, { on := 2, ground := Ground.phase }, { on := 3, ground := Ground.phase }, { on := 4, ground := Ground.phase }, { on := 5, ground := Ground.phase }, { on := 6, ground := Ground.phase }, { on := 7, ground := Ground.phase }, { on := 8, ground := Ground.phase }, { on := 9, ground := Ground.phase }, { on := 10, ground := Ground.phase }], guard := none }) (clo_grown _) rfl rfl rfl (by kernel_rfl) (by kernel_rfl) (by kernel_rfl) (by kernel_rfl) (by kernel_rfl) (fun _ _ _ h => h) (YG.val (by rfl) (fun u hS => run_load_op u _ 47 _ rfl w.heap.size rfl 47 #[.int .i64 k, .int .i64 n, .int .i64 g, .int .i64 z, .int .i64 sg, .int .i64 t, .int .i64 b, .int .i64 l] (HP.out.grown hS) Try.underlying47 rfl size_shape)) ?_
  simp only [Act.put, List.setIfInBounds_toArray, List.set_cons_zero, List.set_cons_succ]
  refine wpX_take 1 (v := .slice (some ⟨gf, 0, none⟩) (m + 70) fc) (oi := { dst := some 22, op := Op.move (Operand.tmp 7), type := 22, pos := "law.go:46", after := #[], guard := none }) (oL := { dst := some 9, op := Op.assign (Operand.tmp 29), type := 25, pos := "law.go:46", after := #[{ on := 9, ground := Ground.data }, { on := 10, ground := Ground.chain }, { on := 0, ground := Ground.phase }, { on := 1, ground := Ground.phase }, { on := 2, ground := Ground.phase }, { on := 3, ground := Ground.phase }, { on := 4, ground := Ground.phase }, { on := 5, ground := Ground.phase }, { on := 6, ground := Ground.phase }, { on := 7, ground := Ground.phase }, { on := 8, ground := Ground.phase }, { on := 9, ground := Ground.phase }, { on := 10, ground := Ground.phase }], guard := none }) (clo_grown _) rfl rfl rfl (by kernel_rfl) (by kernel_rfl) (by kernel_rfl) (by kernel_rfl) (by kernel_rfl) (fun _ _ _ h => h) (YG.val (by rfl) (fun _ _ => rfl)) ?_
  simp only [Act.put, List.setIfInBounds_toArray, List.set_cons_zero, List.set_cons_succ]
  refine wpX_take 2 (v := .slice a m c) (oi := { dst := some 23, op := Op.move (Operand.tmp 1), type := 22, pos := "law.go:46", after := #[], guard := none }) (oL := { dst := some 9, op := Op.assign (Operand.tmp 29), type := 25, pos := "law.go:46", after := #[{ on := 9, ground := Ground.data }, { on := 10, ground := Ground.chain }, { on := 0, ground := Ground.phase }, { on := 1, ground := Ground.phase }, { on := 2, ground := Ground.phase }, { on := 3, ground := Ground.phase }, { on := 4, ground := Ground.phase }, { on := 5, ground := Ground.phase }, { on := 6, ground := Ground.phase }, { on := 7, ground := Ground.phase }, { on := 8, ground := Ground.phase }, { on := 9, ground := Ground.phase }, { on := 10, ground := Ground.phase }], guard := none }) (clo_grown _) rfl rfl rfl (by kernel_rfl) (by kernel_rfl) (by kernel_rfl) (by kernel_rfl) (by kernel_rfl) (fun _ _ _ h => h) (YG.val (by rfl) (fun _ _ => rfl)) ?_
  simp only [Act.put, List.setIfInBounds_toArray, List.set_cons_zero, List.set_cons_succ]
  refine wpX_take 3 (v := .int .i64 (m : Int)) (oi := { dst := some 24, op := Op.call { callee := Callee.builtin Builtin.len, args := #[Operand.tmp 23], argTypes := #[22] }, type := 3, pos := "law.go:46", after := #[{ on := 2, ground := Ground.data }], guard := none }) (oL := { dst := some 9, op := Op.assign (Operand.tmp 29), type := 25, pos := "law.go:46", after := #[{ on := 9, ground := Ground.data }, { on := 10, ground := Ground.chain }, { on := 0, ground := Ground.phase }, { on := 1, ground := Ground.phase }, { on := 2, ground := Ground.phase }, { on := 3, ground := Ground.phase }, { on := 4, ground := Ground.phase }, { on := 5, ground := Ground.phase }, { on := 6, ground := Ground.phase }, { on := 7, ground := Ground.phase }, { on := 8, ground := Ground.phase }, { on := 9, ground := Ground.phase }, { on := 10, ground := Ground.phase }], guard := none }) (clo_grown _) rfl rfl rfl (by kernel_rfl) (by kernel_rfl) (by kernel_rfl) (by kernel_rfl) (by kernel_rfl) (fun _ _ _ h => h) (YG.val (by rfl) (fun _ _ => by go_simp)) ?_
  simp only [Act.put, List.setIfInBounds_toArray, List.set_cons_zero, List.set_cons_succ]
  refine wpX_take 4 (v := .slice (some ⟨gf, 0, none⟩) m fc) (oi := { dst := some 25, op := Op.slice 22 (Operand.tmp 22) none (some (Operand.tmp 24)) none, type := 22, pos := "law.go:46", after := #[{ on := 1, ground := Ground.data }, { on := 3, ground := Ground.data }], guard := none }) (oL := { dst := some 9, op := Op.assign (Operand.tmp 29), type := 25, pos := "law.go:46", after := #[{ on := 9, ground := Ground.data }, { on := 10, ground := Ground.chain }, { on := 0, ground := Ground.phase }, { on := 1, ground := Ground.phase }, { on := 2, ground := Ground.phase }, { on := 3, ground := Ground.phase }, { on := 4, ground := Ground.phase }, { on := 5, ground := Ground.phase }, { on := 6, ground := Ground.phase }, { on := 7, ground := Ground.phase }, { on := 8, ground := Ground.phase }, { on := 9, ground := Ground.phase }, { on := 10, ground := Ground.phase }], guard := none }) (clo_grown _) rfl rfl rfl (by kernel_rfl) (by kernel_rfl) (by kernel_rfl) (by kernel_rfl) (by kernel_rfl) (fun _ _ _ h => h) (YG.val (by rfl) (fun u _ => run_pre_op u _ (.tmp 22) (.tmp 24) rfl gf (m + 70) fc m rfl rfl (by omega))) ?_
  simp only [Act.put, List.setIfInBounds_toArray, List.set_cons_zero, List.set_cons_succ]
  refine wpX_take 5 (v := .int .i64 j) (oi := { dst := some 26, op := Op.move (Operand.tmp 2), type := 3, pos := "law.go:46", after := #[], guard := none }) (oL := { dst := some 9, op := Op.assign (Operand.tmp 29), type := 25, pos := "law.go:46", after := #[{ on := 9, ground := Ground.data }, { on := 10, ground := Ground.chain }, { on := 0, ground := Ground.phase }, { on := 1, ground := Ground.phase }, { on := 2, ground := Ground.phase }, { on := 3, ground := Ground.phase }, { on := 4, ground := Ground.phase }, { on := 5, ground := Ground.phase }, { on := 6, ground := Ground.phase }, { on := 7, ground := Ground.phase }, { on := 8, ground := Ground.phase }, { on := 9, ground := Ground.phase }, { on := 10, ground := Ground.phase }], guard := none }) (clo_grown _) rfl rfl rfl (by kernel_rfl) (by kernel_rfl) (by kernel_rfl) (by kernel_rfl) (by kernel_rfl) (fun _ _ _ h => h) (YG.val (by rfl) (fun _ _ => rfl)) ?_
  simp only [Act.put, List.setIfInBounds_toArray, List.set_cons_zero, List.set_cons_succ]
  refine wpX_step 6 (o := { dst := some 27, op := Op.call { callee := Callee.value (Operand.func 46), args := #[Operand.tmp 21, Operand.tmp 25, Operand.tmp 26], argTypes := #[47, 22, 3] }, type := 38, pos := "law.go:46", after := #[{ on := 0, ground := Ground.data }, { on := 4, ground := Ground.data }, { on := 5, ground := Ground.data }], guard := none }) rfl rfl (by kernel_rfl) (by rfl) (fun u2 hS2 K hK => ?_)
  have HK := Lib.hid hK
  have HS2 := Lib.hid hS2
  clear hK hS2
  refine wp_call_op (f := 46) (args := #[.agg #[.int .i64 k, .int .i64 n, .int .i64 g, .int .i64 z, .int .i64 sg, .int .i64 t, .int .i64 b, .int .i64 l], .slice (some ⟨gf, 0, none⟩) m fc, .int .i64 j]) (w1 := u2) (by go_simp) ((HS1.out _ _ (by omega) u2 (by have h := (HF.out.grown HS2.out).lies.take m; rw [lent_take ls m HLEN.out] at h; exact h)).mono ?_)
  rintro e u3 ⟨⟨ax, mx, cx, rfl, ho⟩, hg⟩
  obtain rfl := ho.len
  refine ⟨_, rfl, HK.out (fun u => u3.grownBy u none) _ _ (World.grownBy.refl _ _) (fun u h => grownBy_trans (grownBy_trans HS2.out hg) h) (clo_grown u3) ?_⟩
  simp only [Act.put, List.setIfInBounds_toArray, List.set_cons_zero, List.set_cons_succ]
  refine wpX_take 7 (v := .tuple #[.slice ax R.length cx, .int .i64 (E : Nat)]) (oi := { dst := some 20, op := Op.move (Operand.tmp 27), type := 38, pos := "law.go:46", after := #[{ on := 6, ground := Ground.data }], guard := none }) (oL := { dst := some 9, op := Op.assign (Operand.tmp 29), type := 25, pos := "law.go:46", after := #[{ on := 9, ground := Ground.data }, { on := 10, ground := Ground.chain }, { on := 0, ground := Ground.phase }, { on := 1, ground := Ground.phase }, { on := 2, ground := Ground.phase }, { on := 3, ground := Ground.phase }, { on := 4, ground := Ground.phase }, { on := 5, ground := Ground.phase }, { on := 6, ground := Ground.phase }, { on := 7, ground := Ground.phase }, { on := 8, ground := Ground.phase }, { on := 9, ground := Ground.phase }, { on := 10, ground := Ground.phase }], guard := none }) (clo_grown _) rfl rfl rfl (by kernel_rfl) (by kernel_rfl) (by kernel_rfl) (by kernel_rfl) (by kernel_rfl) (fun _ _ _ h => h) (YG.val (by rfl) (fun _ _ => rfl)) ?_
  simp only [Act.put, List.setIfInBounds_toArray, List.set_cons_zero, List.set_cons_succ]
  refine wpX_take 8 (v := .slice ax R.length cx) (oi := { dst := some 28, op := Op.extract (Operand.tmp 20) 0, type := 22, pos := "law.go:46", after := #[{ on := 7, ground := Ground.data }], guard := none }) (oL := { dst := some 9, op := Op.assign (Operand.tmp 29), type := 25, pos := "law.go:46", after := #[{ on := 9, ground := Ground.data }, { on := 10, ground := Ground.chain }, { on := 0, ground := Ground.phase }, { on := 1, ground := Ground.phase }, { on := 2, ground := Ground.phase }, { on := 3, ground := Ground.phase }, { on := 4, ground := Ground.phase }, { on := 5, ground := Ground.phase }, { on := 6, ground := Ground.phase }, { on := 7, ground := Ground.phase }, { on := 8, ground := Ground.phase }, { on := 9, ground := Ground.phase }, { on := 10, ground := Ground.phase }], guard := none }) (clo_grown _) rfl rfl rfl (by kernel_rfl) (by kernel_rfl) (by kernel_rfl) (by kernel_rfl) (by kernel_rfl) (fun _ _ _ h => h) (YG.val (by rfl) (fun _ _ => by go_simp)) ?_
  simp only [Act.put, List.setIfInBounds_toArray, List.set_cons_zero, List.set_cons_succ]
  refine wpX_take 9 (v := .int .i64 (E : Nat)) (oi := { dst := some 29, op := Op.extract (Operand.tmp 20) 1, type := 25, pos := "law.go:46", after := #[{ on := 7, ground := Ground.data }, { on := 10, ground := Ground.gcOnly Departure.lateStores }], guard := none }) (oL := { dst := some 9, op := Op.assign (Operand.tmp 29), type := 25, pos := "law.go:46", after := #[{ on := 9, ground := Ground.data }, { on := 10, ground := Ground.chain }, { on := 0, ground := Ground.phase }, { on := 1, ground := Ground.phase }, { on := 2, ground := Ground.phase }, { on := 3, ground := Ground.phase }, { on := 4, ground := Ground.phase }, { on := 5, ground := Ground.phase }, { on := 6, ground := Ground.phase }, { on := 7, ground := Ground.phase }, { on := 8, ground := Ground.phase }, { on := 9, ground := Ground.phase }, { on := 10, ground := Ground.phase }], guard := none }) (clo_grown _) rfl rfl rfl (by kernel_rfl) (by kernel_rfl) (by kernel_rfl) (by kernel_rfl) (by kernel_rfl) (fun _ _ _ h => h) (YG.val (by rfl) (fun _ _ => by go_simp)) ?_
  simp only [Act.put, List.setIfInBounds_toArray, List.set_cons_zero, List.set_cons_succ]
  refine wpX_take 10 (v := .slice ax R.length cx) (oi := { dst := some 8, op := Op.assign (Operand.tmp 28), type := 22, pos := "law.go:46", after := #[{ on := 8, ground := Ground.data }, { on := 6, ground := Ground.chain }, { on := 0, ground := Ground.phase }, { on := 1, ground := Ground.phase }, { on := 2, ground := Ground.phase }, { on := 3, ground := Ground.phase }, { on := 4, ground := Ground.phase }, { on := 5, ground := Ground.phase }, { on := 6, ground := Ground.phase }, { on := 7, ground := Ground.phase }, { on := 8, ground := Ground.phase }, { on := 9, ground := Ground.textOnly Departure.lateStores }], guard := none }) (oL := { dst := some 9, op := Op.assign (Operand.tmp 29), type := 25, pos := "law.go:46", after := #[{ on := 9, ground := Ground.data }, { on := 10, ground := Ground.chain }, { on := 0, ground := Ground.phase }, { on := 1, ground := Ground.phase }, { on := 2, ground := Ground.phase }, { on := 3, ground := Ground.phase }, { on := 4, ground := Ground.phase }, { on := 5, ground := Ground.phase }, { on := 6, ground := Ground.phase }, { on := 7, ground := Ground.phase }, { on := 8, ground := Ground.phase }, { on := 9, ground := Ground.phase }, { on := 10, ground := Ground.phase }], guard := none }) (clo_grown _) rfl rfl rfl (by kernel_rfl) (by kernel_rfl) (by kernel_rfl) (by kernel_rfl) (by kernel_rfl) (fun _ _ _ h => h) (YG.val (by rfl) (fun _ _ => rfl)) ?_
  simp only [Act.put, List.setIfInBounds_toArray, List.set_cons_zero, List.set_cons_succ]
  refine wpX_last (oL := { dst := some 9, op := Op.assign (Operand.tmp 29), type := 25, pos := "law.go:46", after := #[{ on := 9, ground := Ground.data }, { on := 10, ground := Ground.chain }, { on := 0, ground := Ground.phase }, { on := 1, ground := Ground.phase }, { on := 2, ground := Ground.phase }, { on := 3, ground := Ground.phase }, { on := 4, ground := Ground.phase }, { on := 5, ground := Ground.phase }, { on := 6, ground := Ground.phase }, { on := 7, ground := Ground.phase }, { on := 8, ground := Ground.phase }, { on := 9, ground := Ground.phase }, { on := 10, ground := Ground.phase }], guard := none }) rfl (by kernel_rfl) (by kernel_rfl) (by rfl) (fun u4 hS4 K4 hK4 => ?_)
  refine wp_val_op (v := .int .i64 (E : Nat)) (w1 := u4) (rfl) (hK4 _ _ ?_)
  simp only [Act.put, List.setIfInBounds_toArray, List.set_cons_zero, List.set_cons_succ]
  obtain ⟨w2, hwn⟩ : ∃ w2, w2 = u4 := ⟨_, rfl⟩
  rw [← hwn] at hS4 ⊢
  have HXx := Lib.hid ((ho.grown hS4).mono HS2.out.size)
  have g := grownBy_trans (grownBy_trans HS2.out hg) hS4
  clear hwn ho hg hS4 HS2 HK hK4
  have Z12 := Lib.hid g.size
  have WX := Lib.hid HXx.out.within
  replace HG := Lib.hid (grownBy_trans HG.out g)
  replace HP := Lib.hid (HP.out.grown g)
  replace HF := Lib.hid (HF.out.grown g)
  clear g
  go_upto_region 3 with fail
  refine wp_regionX (fun u => w2.grownBy u none) 11 (by kernel_rfl) (grownBy_drewN w2 1 none) ?_
  refine wpX_take 0 (v := .agg #[.int .i64 k, .int .i64 n, .int .i64 g, .int .i64 z, .int .i64 sg, .int .i64 t, .int .i64 b, .int .i64 l]) (oi := { dst := some 31, op := Op.load 47 (Operand.tmp 3), type := 47, pos := "law.go:47", after := #[], guard := none }) (oL := { dst := some 11, op := Op.assign (Operand.tmp 39), type := 25, pos := "law.go:47", after := #[{ on := 9, ground := Ground.data }, { on := 10, ground := Ground.chain }, { on := 0, ground := Ground.phase }, { on := 1, ground := Ground.phase }, { on := 2, ground := Ground.phase }, { on := 3, ground := Ground.phase }, { on := 4, ground := Ground.phase }, { on := 5, ground := Ground.phase }, { on := 6, ground := Ground.phase }, { on := 7, ground := Ground.phase }, { on := 8, ground := Ground.phase }, { on := 9, ground := Ground.phase }, { on := 10, ground := Ground.phase }], guard := none }) (clo_grown _) rfl rfl rfl (by kernel_rfl) (by kernel_rfl) (by kernel_rfl) (by kernel_rfl) (by kernel_rfl) (fun _ _ _ h => h) (YG.val (by rfl) (fun u hS => run_load_op u _ 47 _ rfl w.heap.size rfl 47 #[.int .i64 k, .int .i64 n, .int .i64 g, .int .i64 z, .int .i64 sg, .int .i64 t, .int .i64 b, .int .i64 l] (HP.out.grown hS) Try.underlying47 rfl size_shape)) ?_
  simp only [Act.put, List.setIfInBounds_toArray, List.set_cons_zero, List.set_cons_succ]
  refine wpX_take 1 (v := .slice (some ⟨gf, 0, none⟩) (m + 70) fc) (oi := { dst := some 32, op := Op.move (Operand.tmp 7), type := 22, pos := "law.go:47", after := #[], guard := none }) (oL := { dst := some 11, op := Op.assign (Operand.tmp 39), type := 25, pos := "law.go:47", after := #[{ on := 9, ground := Ground.data }, { on := 10, ground := Ground.chain }, { on := 0, ground := Ground.phase }, { on := 1, ground := Ground.phase }, { on := 2, ground := Ground.phase }, { on := 3, ground := Ground.phase }, { on := 4, ground := Ground.phase }, { on := 5, ground := Ground.phase }, { on := 6, ground := Ground.phase }, { on := 7, ground := Ground.phase }, { on := 8, ground := Ground.phase }, { on := 9, ground := Ground.phase }, { on := 10, ground := Ground.phase }], guard := none }) (clo_grown _) rfl rfl rfl (by kernel_rfl) (by kernel_rfl) (by kernel_rfl) (by kernel_rfl) (by kernel_rfl) (fun _ _ _ h => h) (YG.val (by rfl) (fun _ _ => rfl)) ?_
  simp only [Act.put, List.setIfInBounds_toArray, List.set_cons_zero, List.set_cons_succ]
  refine wpX_take 2 (v := .slice a m c) (oi := { dst := some 33, op := Op.move (Operand.tmp 1), type := 22, pos := "law.go:47", after := #[], guard := none }) (oL := { dst := some 11, op := Op.assign (Operand.tmp 39), type := 25, pos := "law.go:47", after := #[{ on := 9, ground := Ground.data }, { on := 10, ground := Ground.chain }, { on := 0, ground := Ground.phase }, { on := 1, ground := Ground.phase }, { on := 2, ground := Ground.phase }, { on := 3, ground := Ground.phase }, { on := 4, ground := Ground.phase }, { on := 5, ground := Ground.phase }, { on := 6, ground := Ground.phase }, { on := 7, ground := Ground.phase }, { on := 8, ground := Ground.phase }, { on := 9, ground := Ground.phase }, { on := 10, ground := Ground.phase }], guard := none }) (clo_grown _) rfl rfl rfl (by kernel_rfl) (by kernel_rfl) (by kernel_rfl) (by kernel_rfl) (by kernel_rfl) (fun _ _ _ h => h) (YG.val (by rfl) (fun _ _ => rfl)) ?_
  simp only [Act.put, List.setIfInBounds_toArray, List.set_cons_zero, List.set_cons_succ]
  refine wpX_take 3 (v := .int .i64 (m : Int)) (oi := { dst := some 34, op := Op.call { callee := Callee.builtin Builtin.len, args := #[Operand.tmp 33], argTypes := #[22] }, type := 3, pos := "law.go:47", after := #[{ on := 2, ground := Ground.data }], guard := none }) (oL := { dst := some 11, op := Op.assign (Operand.tmp 39), type := 25, pos := "law.go:47", after := #[{ on := 9, ground := Ground.data }, { on := 10, ground := Ground.chain }, { on := 0, ground := Ground.phase }, { on := 1, ground := Ground.phase }, { on := 2, ground := Ground.phase }, { on := 3, ground := Ground.phase }, { on := 4, ground := Ground.phase }, { on := 5, ground := Ground.phase }, { on := 6, ground := Ground.phase }, { on := 7, ground := Ground.phase }, { on := 8, ground := Ground.phase }, { on := 9, ground := Ground.phase }, { on := 10, ground := Ground.phase }], guard := none }) (clo_grown _) rfl rfl rfl (by kernel_rfl) (by kernel_rfl) (by kernel_rfl) (by kernel_rfl) (by kernel_rfl) (fun _ _ _ h => h) (YG.val (by rfl) (fun _ _ => by go_simp)) ?_
  simp only [Act.put, List.setIfInBounds_toArray, List.set_cons_zero, List.set_cons_succ]
  refine wpX_take 4 (v := .slice (some ⟨gf, 0, none⟩) m fc) (oi := { dst := some 35, op := Op.slice 22 (Operand.tmp 32) none (some (Operand.tmp 34)) none, type := 22, pos := "law.go:47", after := #[{ on := 1, ground := Ground.data }, { on := 3, ground := Ground.data }], guard := none }) (oL := { dst := some 11, op := Op.assign (Operand.tmp 39), type := 25, pos := "law.go:47", after := #[{ on := 9, ground := Ground.data }, { on := 10, ground := Ground.chain }, { on := 0, ground := Ground.phase }, { on := 1, ground := Ground.phase }, { on := 2, ground := Ground.phase }, { on := 3, ground := Ground.phase }, { on := 4, ground := Ground.phase }, { on := 5, ground := Ground.phase }, { on := 6, ground := Ground.phase }, { on := 7, ground := Ground.phase }, { on := 8, ground := Ground.phase }, { on := 9, ground := Ground.phase }, { on := 10, ground := Ground.phase }], guard := none }) (clo_grown _) rfl rfl rfl (by kernel_rfl) (by kernel_rfl) (by kernel_rfl) (by kernel_rfl) (by kernel_rfl) (fun _ _ _ h => h) (YG.val (by rfl) (fun u _ => run_pre_op u _ (.tmp 32) (.tmp 34) rfl gf (m + 70) fc m rfl rfl (by omega))) ?_
  simp only [Act.put, List.setIfInBounds_toArray, List.set_cons_zero, List.set_cons_succ]
  refine wpX_take 5 (v := .int .i64 j) (oi := { dst := some 36, op := Op.move (Operand.tmp 2), type := 3, pos := "law.go:47", after := #[], guard := none }) (oL := { dst := some 11, op := Op.assign (Operand.tmp 39), type := 25, pos := "law.go:47", after := #[{ on := 9, ground := Ground.data }, { on := 10, ground := Ground.chain }, { on := 0, ground := Ground.phase }, { on := 1, ground := Ground.phase }, { on := 2, ground := Ground.phase }, { on := 3, ground := Ground.phase }, { on := 4, ground := Ground.phase }, { on := 5, ground := Ground.phase }, { on := 6, ground := Ground.phase }, { on := 7, ground := Ground.phase }, { on := 8, ground := Ground.phase }, { on := 9, ground := Ground.phase }, { on := 10, ground := Ground.phase }], guard := none }) (clo_grown _) rfl rfl rfl (by kernel_rfl) (by kernel_rfl) (by kernel_rfl) (by kernel_rfl) (by kernel_rfl) (fun _ _ _ h => h) (YG.val (by rfl) (fun _ _ => rfl)) ?_
  simp only [Act.put, List.setIfInBounds_toArray, List.set_cons_zero, List.set_cons_succ]
  refine wpX_step 6 (o := { dst := some 37, op := Op.call { callee := Callee.value (Operand.func 46), args := #[Operand.tmp 31, Operand.tmp 35, Operand.tmp 36], argTypes := #[47, 22, 3] }, type := 38, pos := "law.go:47", after := #[{ on := 0, ground := Ground.data }, { on := 4, ground := Ground.data }, { on := 5, ground := Ground.data }], guard := none }) rfl rfl (by kernel_rfl) (by rfl) (fun u2 hS2 K hK => ?_)
  have HK := Lib.hid hK
  have HS2 := Lib.hid hS2
  clear hK hS2
  refine wp_call_op (f := 46) (args := #[.agg #[.int .i64 k, .int .i64 n, .int .i64 g, .int .i64 z, .int .i64 sg, .int .i64 t, .int .i64 b, .int .i64 l], .slice (some ⟨gf, 0, none⟩) m fc, .int .i64 j]) (w1 := u2) (by go_simp) ((HS1.out _ _ (by omega) u2 (by have h := (HF.out.grown HS2.out).lies.take m; rw [lent_take ls m HLEN.out] at h; exact h)).mono ?_)
  rintro e u3 ⟨⟨ay, my, cy, rfl, ho⟩, hg⟩
  obtain rfl := ho.len
  refine ⟨_, rfl, HK.out (fun u => u3.grownBy u none) _ _ (World.grownBy.refl _ _) (fun u h => grownBy_trans (grownBy_trans HS2.out hg) h) (clo_grown u3) ?_⟩
  simp only [Act.put, List.setIfInBounds_toArray, List.set_cons_zero, List.set_cons_succ]
  refine wpX_take 7 (v := .tuple #[.slice ay R.length cy, .int .i64 (E : Nat)]) (oi := { dst := some 30, op := Op.move (Operand.tmp 37), type := 38, pos := "law.go:47", after := #[{ on := 6, ground := Ground.data }], guard := none }) (oL := { dst := some 11, op := Op.assign (Operand.tmp 39), type := 25, pos := "law.go:47", after := #[{ on := 9, ground := Ground.data }, { on := 10, ground := Ground.chain }, { on := 0, ground := Ground.phase }, { on := 1, ground := Ground.phase }, { on := 2, ground := Ground.phase }, { on := 3, ground := Ground.phase }, { on := 4, ground := Ground.phase }, { on := 5, ground := Ground.phase }, { on := 6, ground := Ground.phase }, { on := 7, ground := Ground.phase }, { on := 8, ground := Ground.phase }, { on := 9, ground := Ground.phase }, { on := 10, ground := Ground.phase }], guard := none }) (clo_grown _) rfl rfl rfl (by kernel_rfl) (by kernel_rfl) (by kernel_rfl) (by kernel_rfl) (by kernel_rfl) (fun _ _ _ h => h) (YG.val (by rfl) (fun _ _ => rfl)) ?_
  simp only [Act.put, List.setIfInBounds_toArray, List.set_cons_zero, List.set_cons_succ]
  refine wpX_take 8 (v := .slice ay R.length cy) (oi := { dst := some 38, op := Op.extract (Operand.tmp 30) 0, type := 22, pos := "law.go:47", after := #[{ on := 7, ground := Ground.data }], guard := none }) (oL := { dst := some 11, op := Op.assign (Operand.tmp 39), type := 25, pos := "law.go:47", after := #[{ on := 9, ground := Ground.data }, { on := 10, ground := Ground.chain }, { on := 0, ground := Ground.phase }, { on := 1, ground := Ground.phase }, { on := 2, ground := Ground.phase }, { on := 3, ground := Ground.phase }, { on := 4, ground := Ground.phase }, { on := 5, ground := Ground.phase }, { on := 6, ground := Ground.phase }, { on := 7, ground := Ground.phase }, { on := 8, ground := Ground.phase }, { on := 9, ground := Ground.phase }, { on := 10, ground := Ground.phase }], guard := none }) (clo_grown _) rfl rfl rfl (by kernel_rfl) (by kernel_rfl) (by kernel_rfl) (by kernel_rfl) (by kernel_rfl) (fun _ _ _ h => h) (YG.val (by rfl) (fun _ _ => by go_simp)) ?_
  simp only [Act.put, List.setIfInBounds_toArray, List.set_cons_zero, List.set_cons_succ]
  refine wpX_take 9 (v := .int .i64 (E : Nat)) (oi := { dst := some 39, op := Op.extract (Operand.tmp 30) 1, type := 25, pos := "law.go:47", after := #[{ on := 7, ground := Ground.data }, { on := 10, ground := Ground.gcOnly Departure.lateStores }], guard := none }) (oL := { dst := some 11, op := Op.assign (Operand.tmp 39), type := 25, pos := "law.go:47", after := #[{ on := 9, ground := Ground.data }, { on := 10, ground := Ground.chain }, { on := 0, ground := Ground.phase }, { on := 1, ground := Ground.phase }, { on := 2, ground := Ground.phase }, { on := 3, ground := Ground.phase }, { on := 4, ground := Ground.phase }, { on := 5, ground := Ground.phase }, { on := 6, ground := Ground.phase }, { on := 7, ground := Ground.phase }, { on := 8, ground := Ground.phase }, { on := 9, ground := Ground.phase }, { on := 10, ground := Ground.phase }], guard := none }) (clo_grown _) rfl rfl rfl (by kernel_rfl) (by kernel_rfl) (by kernel_rfl) (by kernel_rfl) (by kernel_rfl) (fun _ _ _ h => h) (YG.val (by rfl) (fun _ _ => by go_simp)) ?_
  simp only [Act.put, List.setIfInBounds_toArray, List.set_cons_zero, List.set_cons_succ]
  refine wpX_take 10 (v := .slice ay R.length cy) (oi := { dst := some 10, op := Op.assign (Operand.tmp 38), type := 22, pos := "law.go:47", after := #[{ on := 8, ground := Ground.data }, { on := 6, ground := Ground.chain }, { on := 0, ground := Ground.phase }, { on := 1, ground := Ground.phase }, { on := 2, ground := Ground.phase }, { on := 3, ground := Ground.phase }, { on := 4, ground := Ground.phase }, { on := 5, ground := Ground.phase }, { on := 6, ground := Ground.phase }, { on := 7, ground := Ground.phase }, { on := 8, ground := Ground.phase }, { on := 9, ground := Ground.textOnly Departure.lateStores }], guard := none }) (oL := { dst := some 11, op := Op.assign (Operand.tmp 39), type := 25, pos := "law.go:47", after := #[{ on := 9, ground := Ground.data }, { on := 10, ground := Ground.chain }, { on := 0, ground := Ground.phase }, { on := 1, ground := Ground.phase }, { on := 2, ground := Ground.phase }, { on := 3, ground := Ground.phase }, { on := 4, ground := Ground.phase }, { on := 5, ground := Ground.phase }, { on := 6, ground := Ground.phase }, { on := 7, ground := Ground.phase }, { on := 8, ground := Ground.phase }, { on := 9, ground := Ground.phase }, { on := 10, ground := Ground.phase }], guard := none }) (clo_grown _) rfl rfl rfl (by kernel_rfl) (by kernel_rfl) (by kernel_rfl) (by kernel_rfl) (by kernel_rfl) (fun _ _ _ h => h) (YG.val (by rfl) (fun _ _ => rfl)) ?_
  simp only [Act.put, List.setIfInBounds_toArray, List.set_cons_zero, List.set_cons_succ]
  refine wpX_last (oL := { dst := some 11, op := Op.assign (Operand.tmp 39), type := 25, pos := "law.go:47", after := #[{ on := 9, ground := Ground.data }, { on := 10, ground := Ground.chain }, { on := 0, ground := Ground.phase }, { on := 1, ground := Ground.phase }, { on := 2, ground := Ground.phase }, { on := 3, ground := Ground.phase }, { on := 4, ground := Ground.phase }, { on := 5, ground := Ground.phase }, { on := 6, ground := Ground.phase }, { on := 7, ground := Ground.phase }, { on := 8, ground := Ground.phase }, { on := 9, ground := Ground.phase }, { on := 10, ground := Ground.phase }], guard := none }) rfl (by kernel_rfl) (by kernel_rfl) (by rfl) (fun u4 hS4 K4 hK4 => ?_)
  refine wp_val_op (v := .int .i64 (E : Nat)) (w1 := u4) (rfl) (hK4 _ _ ?_)
  simp only [Act.put, List.setIfInBounds_toArray, List.set_cons_zero, List.set_cons_succ]
  obtain ⟨w3, hwn⟩ : ∃ w3, w3 = u4 := ⟨_, rfl⟩
  rw [← hwn] at hS4 ⊢
  have HXy := Lib.hid ((ho.grown hS4).mono HS2.out.size)
  have g := grownBy_trans (grownBy_trans HS2.out hg) hS4
  clear hwn ho hg hS4 HS2 HK hK4
  have Z23 := Lib.hid g.size
  have WY := Lib.hid HXy.out.within
  replace HG := Lib.hid (grownBy_trans HG.out g)
  replace HP := Lib.hid (HP.out.grown g)
  replace HF := Lib.hid (HF.out.grown g)
  replace HXx := Lib.hid (HXx.out.grown g)
  clear g
  go_wp2_with fail
  refine (kept_yes _ _ _ _ m _ ls _ (BOwn.lies HF.out) (HA.out.grown HG.out) HLEN.out rfl (by omega)).mono ?_
  rintro e w4 ⟨rfl, g⟩
  have Z34 := Lib.hid g.size
  replace HG := Lib.hid (grownBy_trans HG.out g)
  replace HP := Lib.hid (HP.out.grown g)
  replace HF := Lib.hid (HF.out.grown g)
  replace HXx := Lib.hid (HXx.out.grown g)
  replace HXy := Lib.hid (HXy.out.grown g)
  clear g
  go_wp2_with (first | (refine wpList_load_row rfl 47 _ rfl w.heap.size rfl 47 #[.int .i64 k, .int .i64 n, .int .i64 g, .int .i64 z, .int .i64 sg, .int .i64 t, .int .i64 b, .int .i64 l] (0, 0) _ HP.out Try.underlying47 rfl size_shape ?_))
  refine (HR1.out _ _ hmc _ (HA.out.grown HG.out)).mono ?_
  rintro e w5 ⟨⟨aw, mw, cw, rfl, ho⟩, g⟩
  obtain rfl := ho.len
  have HXw := Lib.hid ho
  clear ho
  have Z45 := Lib.hid g.size
  replace HG := Lib.hid (grownBy_trans HG.out g)
  replace HP := Lib.hid (HP.out.grown g)
  replace HF := Lib.hid (HF.out.grown g)
  replace HXx := Lib.hid (HXx.out.grown g)
  replace HXy := Lib.hid (HXy.out.grown g)
  clear g
  go_wp2_with fail
  refine (same_yes _ _ _ _ _ _ R _ (BOwn.lies HXx.out) (BOwn.lies HXw.out) rfl rfl (Nat.le_trans HB1.out (by decide))).mono ?_
  rintro e w6 ⟨rfl, q, hq⟩
  have g : w5.grownBy w6 none := by rw [hq]; exact grownBy_drewN _ _ _
  clear hq q
  have Z56 := Lib.hid g.size
  replace HG := Lib.hid (grownBy_trans HG.out g)
  replace HP := Lib.hid (HP.out.grown g)
  replace HF := Lib.hid (HF.out.grown g)
  replace HXx := Lib.hid (HXx.out.grown g)
  replace HXy := Lib.hid (HXy.out.grown g)
  replace HXw := Lib.hid (HXw.out.grown g)
  clear g
  go_wp2_with fail
  refine (same_yes _ _ _ _ _ _ R _ (BOwn.lies HXy.out) (BOwn.lies HXw.out) rfl rfl (Nat.le_trans HB1.out (by decide))).mono ?_
  rintro e w7 ⟨rfl, q, hq⟩
  have g : w6.grownBy w7 none := by rw [hq]; exact grownBy_drewN _ _ _
  clear hq q
  have Z67 := Lib.hid g.size
  replace HG := Lib.hid (grownBy_trans HG.out g)
  replace HP := Lib.hid (HP.out.grown g)
  replace HF := Lib.hid (HF.out.grown g)
  replace HXx := Lib.hid (HXx.out.grown g)
  replace HXy := Lib.hid (HXy.out.grown g)
  replace HXw := Lib.hid (HXw.out.grown g)
  clear g
  go_wp2_with fail
  refine (over_n _ gf fc (m + 70) (lent ls) _ HF.out (by omega)).mono ?_
  rintro e w8 ⟨rfl, oO, g⟩
  have Z78 := Lib.hid g.size
  replace HG := Lib.hid (grownBy_old HG.out g (Nat.le_trans ZB.out ZF.out))
  replace HP := Lib.hid (HP.out.grownNe g (by have h1 := ZB.out; have h2 := ZF.out; have h3 := HP1L.out; omega))
  replace HXx : Hid (BOwn w8 w1.heap.size ax R.length cx R) := Lib.hid (Own.grownNe HXx.out g (fun q hc hq hr => by
    obtain ⟨g', e1, h1, _⟩ := Own.block HXx.out hc
    rw [hq] at e1; injection e1 with e1; injection e1 with e1; injection hr with hr
    have h2 := YF.out
    omega))
  replace HXy : Hid (BOwn w8 w2.heap.size ay R.length cy R) := Lib.hid (Own.grownNe HXy.out g (fun q hc hq hr => by
    obtain ⟨g', e1, h1, _⟩ := Own.block HXy.out hc
    rw [hq] at e1; injection e1 with e1; injection e1 with e1; injection hr with hr
    have h2 := YF.out
    have h3 := Z12.out
    omega))
  replace HXw : Hid (BOwn w8 w4.heap.size aw R.length cw R) := Lib.hid (Own.grownNe HXw.out g (fun q hc hq hr => by
    obtain ⟨g', e1, h1, _⟩ := Own.block HXw.out hc
    rw [hq] at e1; injection e1 with e1; injection e1 with e1; injection hr with hr
    have h2 := YF.out
    have h3 := Z12.out
    have h4 := Z23.out
    have h5 := Z34.out
    omega))
  have hoo := BOwn.lies oO
  replace hoo := hoo.take m
  rw [← HLO.out] at hoo
  replace HF := Lib.hid hoo
  clear hoo oO g
  go_upto_region 10 with fail
  refine wp_regionX (fun u => w8.grownBy u none) 11 (by kernel_rfl) (grownBy_drewN w8 1 none) ?_
  refine wpX_take 0 (v := .agg #[.int .i64 k, .int .i64 n, .int .i64 g, .int .i64 z, .int .i64 sg, .int .i64 t, .int .i64 b, .int .i64 l]) (oi := { dst := some 69, op := Op.load 47 (Operand.tmp 3), type := 47, pos := "law.go:56", after := #[], guard := none }) (oL := { dst := some 15, op := Op.assign (Operand.tmp 77), type := 25, pos := "law.go:56", after := #[{ on := 9, ground := Ground.data }, { on := 10, ground := Ground.chain }, { on := 0, ground := Ground.phase }, { on := 1, ground := Ground.phase }, { on := 2, ground := Ground.phase }, { on := 3, ground := Ground.phase }, { on := 4, ground := Ground.phase }, { on := 5, ground := Ground.phase }, { on := 6, ground := Ground.phase }, { on := 7, ground := Ground.phase }, { on := 8, ground := Ground.phase }, { on := 9, ground := Ground.phase }, { on := 10, ground := Ground.phase }], guard := none }) (clo_grown _) rfl rfl rfl (by kernel_rfl) (by kernel_rfl) (by kernel_rfl) (by kernel_rfl) (by kernel_rfl) (fun _ _ _ h => h) (YG.val (by rfl) (fun u hS => run_load_op u _ 47 _ rfl w.heap.size rfl 47 #[.int .i64 k, .int .i64 n, .int .i64 g, .int .i64 z, .int .i64 sg, .int .i64 t, .int .i64 b, .int .i64 l] (HP.out.grown hS) Try.underlying47 rfl size_shape)) ?_
  simp only [Act.put, List.setIfInBounds_toArray, List.set_cons_zero, List.set_cons_succ]
  refine wpX_take 1 (v := .slice (some ⟨gf, 0, none⟩) (m + 70) fc) (oi := { dst := some 70, op := Op.move (Operand.tmp 7), type := 22, pos := "law.go:56", after := #[], guard := none }) (oL := { dst := some 15, op := Op.assign (Operand.tmp 77), type := 25, pos := "law.go:56", after := #[{ on := 9, ground := Ground.data }, { on := 10, ground := Ground.chain }, { on := 0, ground := Ground.phase }, { on := 1, ground := Ground.phase }, { on := 2, ground := Ground.phase }, { on := 3, ground := Ground.phase }, { on := 4, ground := Ground.phase }, { on := 5, ground := Ground.phase }, { on := 6, ground := Ground.phase }, { on := 7, ground := Ground.phase }, { on := 8, ground := Ground.phase }, { on := 9, ground := Ground.phase }, { on := 10, ground := Ground.phase }], guard := none }) (clo_grown _) rfl rfl rfl (by kernel_rfl) (by kernel_rfl) (by kernel_rfl) (by kernel_rfl) (by kernel_rfl) (fun _ _ _ h => h) (YG.val (by rfl) (fun _ _ => rfl)) ?_
  simp only [Act.put, List.setIfInBounds_toArray, List.set_cons_zero, List.set_cons_succ]
  refine wpX_take 2 (v := .slice a m c) (oi := { dst := some 71, op := Op.move (Operand.tmp 1), type := 22, pos := "law.go:56", after := #[], guard := none }) (oL := { dst := some 15, op := Op.assign (Operand.tmp 77), type := 25, pos := "law.go:56", after := #[{ on := 9, ground := Ground.data }, { on := 10, ground := Ground.chain }, { on := 0, ground := Ground.phase }, { on := 1, ground := Ground.phase }, { on := 2, ground := Ground.phase }, { on := 3, ground := Ground.phase }, { on := 4, ground := Ground.phase }, { on := 5, ground := Ground.phase }, { on := 6, ground := Ground.phase }, { on := 7, ground := Ground.phase }, { on := 8, ground := Ground.phase }, { on := 9, ground := Ground.phase }, { on := 10, ground := Ground.phase }], guard := none }) (clo_grown _) rfl rfl rfl (by kernel_rfl) (by kernel_rfl) (by kernel_rfl) (by kernel_rfl) (by kernel_rfl) (fun _ _ _ h => h) (YG.val (by rfl) (fun _ _ => rfl)) ?_
  simp only [Act.put, List.setIfInBounds_toArray, List.set_cons_zero, List.set_cons_succ]
  refine wpX_take 3 (v := .int .i64 (m : Int)) (oi := { dst := some 72, op := Op.call { callee := Callee.builtin Builtin.len, args := #[Operand.tmp 71], argTypes := #[22] }, type := 3, pos := "law.go:56", after := #[{ on := 2, ground := Ground.data }], guard := none }) (oL := { dst := some 15, op := Op.assign (Operand.tmp 77), type := 25, pos := "law.go:56", after := #[{ on := 9, ground := Ground.data }, { on := 10, ground := Ground.chain }, { on := 0, ground := Ground.phase }, { on := 1, ground := Ground.phase }, { on := 2, ground := Ground.phase }, { on := 3, ground := Ground.phase }, { on := 4, ground := Ground.phase }, { on := 5, ground := Ground.phase }, { on := 6, ground := Ground.phase }, { on := 7, ground := Ground.phase }, { on := 8, ground := Ground.phase }, { on := 9, ground := Ground.phase }, { on := 10, ground := Ground.phase }], guard := none }) (clo_grown _) rfl rfl rfl (by kernel_rfl) (by kernel_rfl) (by kernel_rfl) (by kernel_rfl) (by kernel_rfl) (fun _ _ _ h => h) (YG.val (by rfl) (fun _ _ => by go_simp)) ?_
  simp only [Act.put, List.setIfInBounds_toArray, List.set_cons_zero, List.set_cons_succ]
  refine wpX_take 4 (v := .slice (some ⟨gf, 0, none⟩) m fc) (oi := { dst := some 73, op := Op.slice 22 (Operand.tmp 70) none (some (Operand.tmp 72)) none, type := 22, pos := "law.go:56", after := #[{ on := 1, ground := Ground.data }, { on := 3, ground := Ground.data }], guard := none }) (oL := { dst := some 15, op := Op.assign (Operand.tmp 77), type := 25, pos := "law.go:56", after := #[{ on := 9, ground := Ground.data }, { on := 10, ground := Ground.chain }, { on := 0, ground := Ground.phase }, { on := 1, ground := Ground.phase }, { on := 2, ground := Ground.phase }, { on := 3, ground := Ground.phase }, { on := 4, ground := Ground.phase }, { on := 5, ground := Ground.phase }, { on := 6, ground := Ground.phase }, { on := 7, ground := Ground.phase }, { on := 8, ground := Ground.phase }, { on := 9, ground := Ground.phase }, { on := 10, ground := Ground.phase }], guard := none }) (clo_grown _) rfl rfl rfl (by kernel_rfl) (by kernel_rfl) (by kernel_rfl) (by kernel_rfl) (by kernel_rfl) (fun _ _ _ h => h) (YG.val (by rfl) (fun u _ => run_pre_op u _ (.tmp 70) (.tmp 72) rfl gf (m + 70) fc m rfl rfl (by omega))) ?_
  simp only [Act.put, List.setIfInBounds_toArray, List.set_cons_zero, List.set_cons_succ]
  refine wpX_take 5 (v := .int .i64 j) (oi := { dst := some 74, op := Op.move (Operand.tmp 2), type := 3, pos := "law.go:56", after := #[], guard := none }) (oL := { dst := some 15, op := Op.assign (Operand.tmp 77), type := 25, pos := "law.go:56", after := #[{ on := 9, ground := Ground.data }, { on := 10, ground := Ground.chain }, { on := 0, ground := Ground.phase }, { on := 1, ground := Ground.phase }, { on := 2, ground := Ground.phase }, { on := 3, ground := Ground.phase }, { on := 4, ground := Ground.phase }, { on := 5, ground := Ground.phase }, { on := 6, ground := Ground.phase }, { on := 7, ground := Ground.phase }, { on := 8, ground := Ground.phase }, { on := 9, ground := Ground.phase }, { on := 10, ground := Ground.phase }], guard := none }) (clo_grown _) rfl rfl rfl (by kernel_rfl) (by kernel_rfl) (by kernel_rfl) (by kernel_rfl) (by kernel_rfl) (fun _ _ _ h => h) (YG.val (by rfl) (fun _ _ => rfl)) ?_
  simp only [Act.put, List.setIfInBounds_toArray, List.set_cons_zero, List.set_cons_succ]
  refine wpX_step 6 (o := { dst := some 75, op := Op.call { callee := Callee.value (Operand.func 46), args := #[Operand.tmp 69, Operand.tmp 73, Operand.tmp 74], argTypes := #[47, 22, 3] }, type := 38, pos := "law.go:56", after := #[{ on := 0, ground := Ground.data }, { on := 4, ground := Ground.data }, { on := 5, ground := Ground.data }], guard := none }) rfl rfl (by kernel_rfl) (by rfl) (fun u2 hS2 K hK => ?_)
  have HK := Lib.hid hK
  have HS2 := Lib.hid hS2
  clear hK hS2
  refine wp_call_op (f := 46) (args := #[.agg #[.int .i64 k, .int .i64 n, .int .i64 g, .int .i64 z, .int .i64 sg, .int .i64 t, .int .i64 b, .int .i64 l], .slice (some ⟨gf, 0, none⟩) m fc, .int .i64 j]) (w1 := u2) (by go_simp) ((HSO.out _ _ (by omega) u2 (HF.out.grown HS2.out)).mono ?_)
  rintro e u3 ⟨⟨az, mz, cz, rfl, ho⟩, hg⟩
  obtain rfl := ho.len
  refine ⟨_, rfl, HK.out (fun u => u3.grownBy u none) _ _ (World.grownBy.refl _ _) (fun u h => grownBy_trans (grownBy_trans HS2.out hg) h) (clo_grown u3) ?_⟩
  simp only [Act.put, List.setIfInBounds_toArray, List.set_cons_zero, List.set_cons_succ]
  refine wpX_take 7 (v := .tuple #[.slice az R2.length cz, .int .i64 (E : Nat)]) (oi := { dst := some 68, op := Op.move (Operand.tmp 75), type := 38, pos := "law.go:56", after := #[{ on := 6, ground := Ground.data }], guard := none }) (oL := { dst := some 15, op := Op.assign (Operand.tmp 77), type := 25, pos := "law.go:56", after := #[{ on := 9, ground := Ground.data }, { on := 10, ground := Ground.chain }, { on := 0, ground := Ground.phase }, { on := 1, ground := Ground.phase }, { on := 2, ground := Ground.phase }, { on := 3, ground := Ground.phase }, { on := 4, ground := Ground.phase }, { on := 5, ground := Ground.phase }, { on := 6, ground := Ground.phase }, { on := 7, ground := Ground.phase }, { on := 8, ground := Ground.phase }, { on := 9, ground := Ground.phase }, { on := 10, ground := Ground.phase }], guard := none }) (clo_grown _) rfl rfl rfl (by kernel_rfl) (by kernel_rfl) (by kernel_rfl) (by kernel_rfl) (by kernel_rfl) (fun _ _ _ h => h) (YG.val (by rfl) (fun _ _ => rfl)) ?_
  simp only [Act.put, List.setIfInBounds_toArray, List.set_cons_zero, List.set_cons_succ]
  refine wpX_take 8 (v := .slice az R2.length cz) (oi := { dst := some 76, op := Op.extract (Operand.tmp 68) 0, type := 22, pos := "law.go:56", after := #[{ on := 7, ground := Ground.data }], guard := none }) (oL := { dst := some 15, op := Op.assign (Operand.tmp 77), type := 25, pos := "law.go:56", after := #[{ on := 9, ground := Ground.data }, { on := 10, ground := Ground.chain }, { on := 0, ground := Ground.phase }, { on := 1, ground := Ground.phase }, { on := 2, ground := Ground.phase }, { on := 3, ground := Ground.phase }, { on := 4, ground := Ground.phase }, { on := 5, ground := Ground.phase }, { on := 6, ground := Ground.phase }, { on := 7, ground := Ground.phase }, { on := 8, ground := Ground.phase }, { on := 9, ground := Ground.phase }, { on := 10, ground := Ground.phase }], guard := none }) (clo_grown _) rfl rfl rfl (by kernel_rfl) (by kernel_rfl) (by kernel_rfl) (by kernel_rfl) (by kernel_rfl) (fun _ _ _ h => h) (YG.val (by rfl) (fun _ _ => by go_simp)) ?_
  simp only [Act.put, List.setIfInBounds_toArray, List.set_cons_zero, List.set_cons_succ]
  refine wpX_take 9 (v := .int .i64 (E : Nat)) (oi := { dst := some 77, op := Op.extract (Operand.tmp 68) 1, type := 25, pos := "law.go:56", after := #[{ on := 7, ground := Ground.data }, { on := 10, ground := Ground.gcOnly Departure.lateStores }], guard := none }) (oL := { dst := some 15, op := Op.assign (Operand.tmp 77), type := 25, pos := "law.go:56", after := #[{ on := 9, ground := Ground.data }, { on := 10, ground := Ground.chain }, { on := 0, ground := Ground.phase }, { on := 1, ground := Ground.phase }, { on := 2, ground := Ground.phase }, { on := 3, ground := Ground.phase }, { on := 4, ground := Ground.phase }, { on := 5, ground := Ground.phase }, { on := 6, ground := Ground.phase }, { on := 7, ground := Ground.phase }, { on := 8, ground := Ground.phase }, { on := 9, ground := Ground.phase }, { on := 10, ground := Ground.phase }], guard := none }) (clo_grown _) rfl rfl rfl (by kernel_rfl) (by kernel_rfl) (by kernel_rfl) (by kernel_rfl) (by kernel_rfl) (fun _ _ _ h => h) (YG.val (by rfl) (fun _ _ => by go_simp)) ?_
  simp only [Act.put, List.setIfInBounds_toArray, List.set_cons_zero, List.set_cons_succ]
  refine wpX_take 10 (v := .slice az R2.length cz) (oi := { dst := some 14, op := Op.assign (Operand.tmp 76), type := 22, pos := "law.go:56", after := #[{ on := 8, ground := Ground.data }, { on := 6, ground := Ground.chain }, { on := 0, ground := Ground.phase }, { on := 1, ground := Ground.phase }, { on := 2, ground := Ground.phase }, { on := 3, ground := Ground.phase }, { on := 4, ground := Ground.phase }, { on := 5, ground := Ground.phase }, { on := 6, ground := Ground.phase }, { on := 7, ground := Ground.phase }, { on := 8, ground := Ground.phase }, { on := 9, ground := Ground.textOnly Departure.lateStores }], guard := none }) (oL := { dst := some 15, op := Op.assign (Operand.tmp 77), type := 25, pos := "law.go:56", after := #[{ on := 9, ground := Ground.data }, { on := 10, ground := Ground.chain }, { on := 0, ground := Ground.phase }, { on := 1, ground := Ground.phase }, { on := 2, ground := Ground.phase }, { on := 3, ground := Ground.phase }, { on := 4, ground := Ground.phase }, { on := 5, ground := Ground.phase }, { on := 6, ground := Ground.phase }, { on := 7, ground := Ground.phase }, { on := 8, ground := Ground.phase }, { on := 9, ground := Ground.phase }, { on := 10, ground := Ground.phase }], guard := none }) (clo_grown _) rfl rfl rfl (by kernel_rfl) (by kernel_rfl) (by kernel_rfl) (by kernel_rfl) (by kernel_rfl) (fun _ _ _ h => h) (YG.val (by rfl) (fun _ _ => rfl)) ?_
  simp only [Act.put, List.setIfInBounds_toArray, List.set_cons_zero, List.set_cons_succ]
  refine wpX_last (oL := { dst := some 15, op := Op.assign (Operand.tmp 77), type := 25, pos := "law.go:56", after := #[{ on := 9, ground := Ground.data }, { on := 10, ground := Ground.chain }, { on := 0, ground := Ground.phase }, { on := 1, ground := Ground.phase }, { on := 2, ground := Ground.phase }, { on := 3, ground := Ground.phase }, { on := 4, ground := Ground.phase }, { on := 5, ground := Ground.phase }, { on := 6, ground := Ground.phase }, { on := 7, ground := Ground.phase }, { on := 8, ground := Ground.phase }, { on := 9, ground := Ground.phase }, { on := 10, ground := Ground.phase }], guard := none }) rfl (by kernel_rfl) (by kernel_rfl) (by rfl) (fun u4 hS4 K4 hK4 => ?_)
  refine wp_val_op (v := .int .i64 (E : Nat)) (w1 := u4) (rfl) (hK4 _ _ ?_)
  simp only [Act.put, List.setIfInBounds_toArray, List.set_cons_zero, List.set_cons_succ]
  obtain ⟨w9, hwn⟩ : ∃ w9, w9 = u4 := ⟨_, rfl⟩
  rw [← hwn] at hS4 ⊢
  have HXz := Lib.hid ((ho.grown hS4).mono HS2.out.size)
  have g := grownBy_trans (grownBy_trans HS2.out hg) hS4
  clear hwn ho hg hS4 HS2 HK hK4
  have Z89 := Lib.hid g.size
  have WZ := Lib.hid HXz.out.within
  replace HG := Lib.hid (grownBy_trans HG.out g)
  replace HP := Lib.hid (HP.out.grown g)
  replace HF := Lib.hid (HF.out.grown g)
  replace HXx := Lib.hid (HXx.out.grown g)
  replace HXy := Lib.hid (HXy.out.grown g)
  replace HXw := Lib.hid (HXw.out.grown g)
  clear g
  go_upto_region 11 with fail
  refine wp_regionX (fun u => w9.grownBy u none) 11 (by kernel_rfl) (grownBy_drewN w9 1 none) ?_
  refine wpX_take 0 (v := .agg #[.int .i64 k, .int .i64 n, .int .i64 g, .int .i64 z, .int .i64 sg, .int .i64 t, .int .i64 b, .int .i64 l]) (oi := { dst := some 79, op := Op.load 47 (Operand.tmp 3), type := 47, pos := "law.go:57", after := #[], guard := none }) (oL := { dst := some 17, op := Op.assign (Operand.tmp 87), type := 25, pos := "law.go:57", after := #[{ on := 9, ground := Ground.data }, { on := 10, ground := Ground.chain }, { on := 0, ground := Ground.phase }, { on := 1, ground := Ground.phase }, { on := 2, ground := Ground.phase }, { on := 3, ground := Ground.phase }, { on := 4, ground := Ground.phase }, { on := 5, ground := Ground.phase }, { on := 6, ground := Ground.phase }, { on := 7, ground := Ground.phase }, { on := 8, ground := Ground.phase }, { on := 9, ground := Ground.phase }, { on := 10, ground := Ground.phase }], guard := none }) (clo_grown _) rfl rfl rfl (by kernel_rfl) (by kernel_rfl) (by kernel_rfl) (by kernel_rfl) (by kernel_rfl) (fun _ _ _ h => h) (YG.val (by rfl) (fun u hS => run_load_op u _ 47 _ rfl w.heap.size rfl 47 #[.int .i64 k, .int .i64 n, .int .i64 g, .int .i64 z, .int .i64 sg, .int .i64 t, .int .i64 b, .int .i64 l] (HP.out.grown hS) Try.underlying47 rfl size_shape)) ?_
  simp only [Act.put, List.setIfInBounds_toArray, List.set_cons_zero, List.set_cons_succ]
  refine wpX_take 1 (v := .slice (some ⟨gf, 0, none⟩) (m + 70) fc) (oi := { dst := some 80, op := Op.move (Operand.tmp 7), type := 22, pos := "law.go:57", after := #[], guard := none }) (oL := { dst := some 17, op := Op.assign (Operand.tmp 87), type := 25, pos := "law.go:57", after := #[{ on := 9, ground := Ground.data }, { on := 10, ground := Ground.chain }, { on := 0, ground := Ground.phase }, { on := 1, ground := Ground.phase }, { on := 2, ground := Ground.phase }, { on := 3, ground := Ground.phase }, { on := 4, ground := Ground.phase }, { on := 5, ground := Ground.phase }, { on := 6, ground := Ground.phase }, { on := 7, ground := Ground.phase }, { on := 8, ground := Ground.phase }, { on := 9, ground := Ground.phase }, { on := 10, ground := Ground.phase }], guard := none }) (clo_grown _) rfl rfl rfl (by kernel_rfl) (by kernel_rfl) (by kernel_rfl) (by kernel_rfl) (by kernel_rfl) (fun _ _ _ h => h) (YG.val (by rfl) (fun _ _ => rfl)) ?_
  simp only [Act.put, List.setIfInBounds_toArray, List.set_cons_zero, List.set_cons_succ]
  refine wpX_take 2 (v := .slice a m c) (oi := { dst := some 81, op := Op.move (Operand.tmp 1), type := 22, pos := "law.go:57", after := #[], guard := none }) (oL := { dst := some 17, op := Op.assign (Operand.tmp 87), type := 25, pos := "law.go:57", after := #[{ on := 9, ground := Ground.data }, { on := 10, ground := Ground.chain }, { on := 0, ground := Ground.phase }, { on := 1, ground := Ground.phase }, { on := 2, ground := Ground.phase }, { on := 3, ground := Ground.phase }, { on := 4, ground := Ground.phase }, { on := 5, ground := Ground.phase }, { on := 6, ground := Ground.phase }, { on := 7, ground := Ground.phase }, { on := 8, ground := Ground.phase }, { on := 9, ground := Ground.phase }, { on := 10, ground := Ground.phase }], guard := none }) (clo_grown _) rfl rfl rfl (by kernel_rfl) (by kernel_rfl) (by kernel_rfl) (by kernel_rfl) (by kernel_rfl) (fun _ _ _ h => h) (YG.val (by rfl) (fun _ _ => rfl)) ?_
  simp only [Act.put, List.setIfInBounds_toArray, List.set_cons_zero, List.set_cons_succ]
  refine wpX_take 3 (v := .int .i64 (m : Int)) (oi := { dst := some 82, op := Op.call { callee := Callee.builtin Builtin.len, args := #[Operand.tmp 81], argTypes := #[22] }, type := 3, pos := "law.go:57", after := #[{ on := 2, ground := Ground.data }], guard := none }) (oL := { dst := some 17, op := Op.assign (Operand.tmp 87), type := 25, pos := "law.go:57", after := #[{ on := 9, ground := Ground.data }, { on := 10, ground := Ground.chain }, { on := 0, ground := Ground.phase }, { on := 1, ground := Ground.phase }, { on := 2, ground := Ground.phase }, { on := 3, ground := Ground.phase }, { on := 4, ground := Ground.phase }, { on := 5, ground := Ground.phase }, { on := 6, ground := Ground.phase }, { on := 7, ground := Ground.phase }, { on := 8, ground := Ground.phase }, { on := 9, ground := Ground.phase }, { on := 10, ground := Ground.phase }], guard := none }) (clo_grown _) rfl rfl rfl (by kernel_rfl) (by kernel_rfl) (by kernel_rfl) (by kernel_rfl) (by kernel_rfl) (fun _ _ _ h => h) (YG.val (by rfl) (fun _ _ => by go_simp)) ?_
  simp only [Act.put, List.setIfInBounds_toArray, List.set_cons_zero, List.set_cons_succ]
  refine wpX_take 4 (v := .slice (some ⟨gf, 0, none⟩) m fc) (oi := { dst := some 83, op := Op.slice 22 (Operand.tmp 80) none (some (Operand.tmp 82)) none, type := 22, pos := "law.go:57", after := #[{ on := 1, ground := Ground.data }, { on := 3, ground := Ground.data }], guard := none }) (oL := { dst := some 17, op := Op.assign (Operand.tmp 87), type := 25, pos := "law.go:57", after := #[{ on := 9, ground := Ground.data }, { on := 10, ground := Ground.chain }, { on := 0, ground := Ground.phase }, { on := 1, ground := Ground.phase }, { on := 2, ground := Ground.phase }, { on := 3, ground := Ground.phase }, { on := 4, ground := Ground.phase }, { on := 5, ground := Ground.phase }, { on := 6, ground := Ground.phase }, { on := 7, ground := Ground.phase }, { on := 8, ground := Ground.phase }, { on := 9, ground := Ground.phase }, { on := 10, ground := Ground.phase }], guard := none }) (clo_grown _) rfl rfl rfl (by kernel_rfl) (by kernel_rfl) (by kernel_rfl) (by kernel_rfl) (by kernel_rfl) (fun _ _ _ h => h) (YG.val (by rfl) (fun u _ => run_pre_op u _ (.tmp 80) (.tmp 82) rfl gf (m + 70) fc m rfl rfl (by omega))) ?_
  simp only [Act.put, List.setIfInBounds_toArray, List.set_cons_zero, List.set_cons_succ]
  refine wpX_take 5 (v := .int .i64 j) (oi := { dst := some 84, op := Op.move (Operand.tmp 2), type := 3, pos := "law.go:57", after := #[], guard := none }) (oL := { dst := some 17, op := Op.assign (Operand.tmp 87), type := 25, pos := "law.go:57", after := #[{ on := 9, ground := Ground.data }, { on := 10, ground := Ground.chain }, { on := 0, ground := Ground.phase }, { on := 1, ground := Ground.phase }, { on := 2, ground := Ground.phase }, { on := 3, ground := Ground.phase }, { on := 4, ground := Ground.phase }, { on := 5, ground := Ground.phase }, { on := 6, ground := Ground.phase }, { on := 7, ground := Ground.phase }, { on := 8, ground := Ground.phase }, { on := 9, ground := Ground.phase }, { on := 10, ground := Ground.phase }], guard := none }) (clo_grown _) rfl rfl rfl (by kernel_rfl) (by kernel_rfl) (by kernel_rfl) (by kernel_rfl) (by kernel_rfl) (fun _ _ _ h => h) (YG.val (by rfl) (fun _ _ => rfl)) ?_
  simp only [Act.put, List.setIfInBounds_toArray, List.set_cons_zero, List.set_cons_succ]
  refine wpX_step 6 (o := { dst := some 85, op := Op.call { callee := Callee.value (Operand.func 47), args := #[Operand.tmp 79, Operand.tmp 83, Operand.tmp 84], argTypes := #[47, 22, 3] }, type := 38, pos := "law.go:57", after := #[{ on := 0, ground := Ground.data }, { on := 4, ground := Ground.data }, { on := 5, ground := Ground.data }], guard := none }) rfl rfl (by kernel_rfl) (by rfl) (fun u2 hS2 K hK => ?_)
  have HK := Lib.hid hK
  have HS2 := Lib.hid hS2
  clear hK hS2
  refine wp_call_op (f := 47) (args := #[.agg #[.int .i64 k, .int .i64 n, .int .i64 g, .int .i64 z, .int .i64 sg, .int .i64 t, .int .i64 b, .int .i64 l], .slice (some ⟨gf, 0, none⟩) m fc, .int .i64 j]) (w1 := u2) (by go_simp) ((HRO.out _ _ (by omega) u2 (HF.out.grown HS2.out)).mono ?_)
  rintro e u3 ⟨⟨ao, mo, co, rfl, ho⟩, hg⟩
  obtain rfl := ho.len
  refine ⟨_, rfl, HK.out (fun u => u3.grownBy u none) _ _ (World.grownBy.refl _ _) (fun u h => grownBy_trans (grownBy_trans HS2.out hg) h) (clo_grown u3) ?_⟩
  simp only [Act.put, List.setIfInBounds_toArray, List.set_cons_zero, List.set_cons_succ]
  refine wpX_take 7 (v := .tuple #[.slice ao R2.length co, .int .i64 (E : Nat)]) (oi := { dst := some 78, op := Op.move (Operand.tmp 85), type := 38, pos := "law.go:57", after := #[{ on := 6, ground := Ground.data }], guard := none }) (oL := { dst := some 17, op := Op.assign (Operand.tmp 87), type := 25, pos := "law.go:57", after := #[{ on := 9, ground := Ground.data }, { on := 10, ground := Ground.chain }, { on := 0, ground := Ground.phase }, { on := 1, ground := Ground.phase }, { on := 2, ground := Ground.phase }, { on := 3, ground := Ground.phase }, { on := 4, ground := Ground.phase }, { on := 5, ground := Ground.phase }, { on := 6, ground := Ground.phase }, { on := 7, ground := Ground.phase }, { on := 8, ground := Ground.phase }, { on := 9, ground := Ground.phase }, { on := 10, ground := Ground.phase }], guard := none }) (clo_grown _) rfl rfl rfl (by kernel_rfl) (by kernel_rfl) (by kernel_rfl) (by kernel_rfl) (by kernel_rfl) (fun _ _ _ h => h) (YG.val (by rfl) (fun _ _ => rfl)) ?_
  simp only [Act.put, List.setIfInBounds_toArray, List.set_cons_zero, List.set_cons_succ]
  refine wpX_take 8 (v := .slice ao R2.length co) (oi := { dst := some 86, op := Op.extract (Operand.tmp 78) 0, type := 22, pos := "law.go:57", after := #[{ on := 7, ground := Ground.data }], guard := none }) (oL := { dst := some 17, op := Op.assign (Operand.tmp 87), type := 25, pos := "law.go:57", after := #[{ on := 9, ground := Ground.data }, { on := 10, ground := Ground.chain }, { on := 0, ground := Ground.phase }, { on := 1, ground := Ground.phase }, { on := 2, ground := Ground.phase }, { on := 3, ground := Ground.phase }, { on := 4, ground := Ground.phase }, { on := 5, ground := Ground.phase }, { on := 6, ground := Ground.phase }, { on := 7, ground := Ground.phase }, { on := 8, ground := Ground.phase }, { on := 9, ground := Ground.phase }, { on := 10, ground := Ground.phase }], guard := none }) (clo_grown _) rfl rfl rfl (by kernel_rfl) (by kernel_rfl) (by kernel_rfl) (by kernel_rfl) (by kernel_rfl) (fun _ _ _ h => h) (YG.val (by rfl) (fun _ _ => by go_simp)) ?_
  simp only [Act.put, List.setIfInBounds_toArray, List.set_cons_zero, List.set_cons_succ]
  refine wpX_take 9 (v := .int .i64 (E : Nat)) (oi := { dst := some 87, op := Op.extract (Operand.tmp 78) 1, type := 25, pos := "law.go:57", after := #[{ on := 7, ground := Ground.data }, { on := 10, ground := Ground.gcOnly Departure.lateStores }], guard := none }) (oL := { dst := some 17, op := Op.assign (Operand.tmp 87), type := 25, pos := "law.go:57", after := #[{ on := 9, ground := Ground.data }, { on := 10, ground := Ground.chain }, { on := 0, ground := Ground.phase }, { on := 1, ground := Ground.phase }, { on := 2, ground := Ground.phase }, { on := 3, ground := Ground.phase }, { on := 4, ground := Ground.phase }, { on := 5, ground := Ground.phase }, { on := 6, ground := Ground.phase }, { on := 7, ground := Ground.phase }, { on := 8, ground := Ground.phase }, { on := 9, ground := Ground.phase }, { on := 10, ground := Ground.phase }], guard := none }) (clo_grown _) rfl rfl rfl (by kernel_rfl) (by kernel_rfl) (by kernel_rfl) (by kernel_rfl) (by kernel_rfl) (fun _ _ _ h => h) (YG.val (by rfl) (fun _ _ => by go_simp)) ?_
  simp only [Act.put, List.setIfInBounds_toArray, List.set_cons_zero, List.set_cons_succ]
  refine wpX_take 10 (v := .slice ao R2.length co) (oi := { dst := some 16, op := Op.assign (Operand.tmp 86), type := 22, pos := "law.go:57", after := #[{ on := 8, ground := Ground.data }, { on := 6, ground := Ground.chain }, { on := 0, ground := Ground.phase }, { on := 1, ground := Ground.phase }, { on := 2, ground := Ground.phase }, { on := 3, ground := Ground.phase }, { on := 4, ground := Ground.phase }, { on := 5, ground := Ground.phase }, { on := 6, ground := Ground.phase }, { on := 7, ground := Ground.phase }, { on := 8, ground := Ground.phase }, { on := 9, ground := Ground.textOnly Departure.lateStores }], guard := none }) (oL := { dst := some 17, op := Op.assign (Operand.tmp 87), type := 25, pos := "law.go:57", after := #[{ on := 9, ground := Ground.data }, { on := 10, ground := Ground.chain }, { on := 0, ground := Ground.phase }, { on := 1, ground := Ground.phase }, { on := 2, ground := Ground.phase }, { on := 3, ground := Ground.phase }, { on := 4, ground := Ground.phase }, { on := 5, ground := Ground.phase }, { on := 6, ground := Ground.phase }, { on := 7, ground := Ground.phase }, { on := 8, ground := Ground.phase }, { on := 9, ground := Ground.phase }, { on := 10, ground := Ground.phase }], guard := none }) (clo_grown _) rfl rfl rfl (by kernel_rfl) (by kernel_rfl) (by kernel_rfl) (by kernel_rfl) (by kernel_rfl) (fun _ _ _ h => h) (YG.val (by rfl) (fun _ _ => rfl)) ?_
  simp only [Act.put, List.setIfInBounds_toArray, List.set_cons_zero, List.set_cons_succ]
  refine wpX_last (oL := { dst := some 17, op := Op.assign (Operand.tmp 87), type := 25, pos := "law.go:57", after := #[{ on := 9, ground := Ground.data }, { on := 10, ground := Ground.chain }, { on := 0, ground := Ground.phase }, { on := 1, ground := Ground.phase }, { on := 2, ground := Ground.phase }, { on := 3, ground := Ground.phase }, { on := 4, ground := Ground.phase }, { on := 5, ground := Ground.phase }, { on := 6, ground := Ground.phase }, { on := 7, ground := Ground.phase }, { on := 8, ground := Ground.phase }, { on := 9, ground := Ground.phase }, { on := 10, ground := Ground.phase }], guard := none }) rfl (by kernel_rfl) (by kernel_rfl) (by rfl) (fun u4 hS4 K4 hK4 => ?_)
  refine wp_val_op (v := .int .i64 (E : Nat)) (w1 := u4) (rfl) (hK4 _ _ ?_)
  simp only [Act.put, List.setIfInBounds_toArray, List.set_cons_zero, List.set_cons_succ]
  obtain ⟨w10, hwn⟩ : ∃ w10, w10 = u4 := ⟨_, rfl⟩
  rw [← hwn] at hS4 ⊢
  have HXo := Lib.hid ((ho.grown hS4).mono HS2.out.size)
  have g := grownBy_trans (grownBy_trans HS2.out hg) hS4
  clear hwn ho hg hS4 HS2 HK hK4
  have Z910 := Lib.hid g.size
  replace HG := Lib.hid (grownBy_trans HG.out g)
  replace HP := Lib.hid (HP.out.grown g)
  replace HF := Lib.hid (HF.out.grown g)
  replace HXx := Lib.hid (HXx.out.grown g)
  replace HXy := Lib.hid (HXy.out.grown g)
  replace HXw := Lib.hid (HXw.out.grown g)
  replace HXz := Lib.hid (HXz.out.grown g)
  clear g
  go_wp2_with fail
  refine (same_yes _ _ _ _ _ _ R _ (BOwn.lies HXx.out) (BOwn.lies HXw.out) rfl rfl (Nat.le_trans HB1.out (by decide))).mono ?_
  rintro e w11 ⟨rfl, q, hq⟩
  have g : w10.grownBy w11 none := by rw [hq]; exact grownBy_drewN _ _ _
  clear hq q
  have Z1011 := Lib.hid g.size
  replace HG := Lib.hid (grownBy_trans HG.out g)
  replace HP := Lib.hid (HP.out.grown g)
  replace HF := Lib.hid (HF.out.grown g)
  replace HXx := Lib.hid (HXx.out.grown g)
  replace HXy := Lib.hid (HXy.out.grown g)
  replace HXw := Lib.hid (HXw.out.grown g)
  replace HXz := Lib.hid (HXz.out.grown g)
  replace HXo := Lib.hid (HXo.out.grown g)
  clear g
  go_wp2_with fail
  refine (same_yes _ _ _ _ _ _ R2 _ (BOwn.lies HXz.out) (BOwn.lies HXo.out) rfl rfl (Nat.le_trans HB2.out (by decide))).mono ?_
  rintro e w12 ⟨rfl, q, hq⟩
  have g : w11.grownBy w12 none := by rw [hq]; exact grownBy_drewN _ _ _
  clear hq q
  have Z1112 := Lib.hid g.size
  replace HG := Lib.hid (grownBy_trans HG.out g)
  replace HP := Lib.hid (HP.out.grown g)
  replace HF := Lib.hid (HF.out.grown g)
  replace HXx := Lib.hid (HXx.out.grown g)
  replace HXy := Lib.hid (HXy.out.grown g)
  replace HXw := Lib.hid (HXw.out.grown g)
  replace HXz := Lib.hid (HXz.out.grown g)
  replace HXo := Lib.hid (HXo.out.grown g)
  clear g
  go_wp2_with fail
  have zr : w.heap.size ≤ w12.heap.size := HG.out.size
  have zb := ZB.out
  have zf := ZF.out
  have yf := YF.out
  have z12 := Z12.out
  have z23 := Z23.out
  have z34 := Z34.out
  have z45 := Z45.out
  have z56 := Z56.out
  have z67 := Z67.out
  have z78 := Z78.out
  have z89 := Z89.out
  have z910 := Z910.out
  have z1011 := Z1011.out
  have z1112 := Z1112.out
  have hst := st1_lit (w := w12) (base := w.heap.size) (L := [⟨ax, R.length, cx⟩, ⟨ay, R.length, cy⟩, ⟨az, R2.length, cz⟩])
    (fun j hj => match j, hj with
      | 0, _ => ⟨_, HXx.out.mono (by omega)⟩
      | 1, _ => ⟨_, HXy.out.mono (by omega)⟩
      | 2, _ => ⟨_, HXz.out.mono (by omega)⟩) zr 3 rfl (by decide)
  have hd : Distinct [⟨ax, R.length, cx⟩, ⟨ay, R.length, cy⟩, ⟨az, R2.length, cz⟩] := distinct_of _ (fun | 0 => w1.heap.size | 1 => w2.heap.size | 2 => w8.heap.size | _ => w12.heap.size)
    (fun i hi => match i, hi with
      | 0, _ => z12
      | 1, _ => (by show w2.heap.size ≤ w8.heap.size; omega)
      | 2, _ => (by show w8.heap.size ≤ w12.heap.size; omega))
    (fun i hi => match i, hi with
      | 0, _ => WX.out
      | 1, _ => (fun q hq => by obtain ⟨h1, h2⟩ := WY.out q hq; exact ⟨h1, by show q < w8.heap.size; omega⟩)
      | 2, _ => (fun q hq => by obtain ⟨h1, h2⟩ := WZ.out q hq; exact ⟨h1, by show q < w12.heap.size; omega⟩))
  refine (apart_n _ _ _ 3 _ _ hst (by simp; omega) hd rfl (by omega) (fun j hj => match j, hj with
      | 0, _ => (by show R.length ≤ 100000000; have := HB1.out; omega)
      | 1, _ => (by show R.length ≤ 100000000; have := HB1.out; omega)
      | 2, _ => (by show R2.length ≤ 100000000; have := HB2.out; omega))).mono ?_
  rintro e w13 ⟨rfl, hbel⟩
  have G13 := Lib.hid (grown_below (grownBy_trans HG.out (World.grownBy_alloc w12 (.cells ([(⟨ax, R.length, cx⟩ : Sl), ⟨ay, R.length, cy⟩, ⟨az, R2.length, cz⟩].map Sl.val).toArray 22) none)) hbel (Nat.le_refl _))
  clear hbel hd hst
  go_wp2_with fail
  refine (awake_n _).mono ?_
  rintro e w14 ⟨rfl, g⟩
  have G14 := Lib.hid (grownBy_trans G13.out g)
  clear g
  go_wp2_with fail
  refine bodyPost_ret (by simp [*, results, Try.results11, go_sem]; try rfl) rfl ?_
  exact ⟨rfl, G14.out⟩

end Go.Proofs.Ytfboddnpkaiifaa
