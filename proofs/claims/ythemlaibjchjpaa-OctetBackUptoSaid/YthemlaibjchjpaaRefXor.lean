/- the document's Xor. -/
import Derived.Test.YthemlaibjchjpaaXor
namespace Go.Proofs.Ythemlaibjchjpaa
open Go.RowKit

theorem cell_in {w : World} {a : Option Addr} {l : List UInt8} (h : BLies w a l) {i : Nat} (hi : i < l.length) {g o : Nat} (ha : a = some ⟨g, o, none⟩) : w.cell? ⟨g, o + i, none⟩ = some (.int .u8 ((l[i]).toNat : Int)) := by
  obtain ⟨b, off, e, hc⟩ := h i hi
  rw [ha] at e
  injection e with e; injection e with e1 e2
  subst e1; subst e2
  exact hc

set_option maxRecDepth 100000 in
set_option maxHeartbeats 2000000 in
theorem refXor_eq (aa ab : Option Addr) (n ca cb : Nat) (l1 l2 : List UInt8) (w : World) (ha : BLies w aa l1) (hb : BLies w ab l2) (hl1 : l1.length = n) (hl2 : l2.length = n) (hn : n ≤ 4000000000) (X : List UInt8) (hX : X = xorL l1 l2) :
    Calls Try.prog 30 #[.slice aa n ca, .slice ab n cb] w fun e w' => ∃ ao co, e = .returned (.tuple #[.slice ao n co, .int .i64 0]) ∧ BOwn w' w.heap.size ao n co X ∧ w.grownBy w' none := by
  have hXn : X.length = n := by rw [hX, xorL_len (by rw [hl1, hl2]), hl1]
  have HX := Lib.hid hX
  have HXN := Lib.hid hXn
  have HA := Lib.hid ha
  have HB := Lib.hid hb
  have HL1 := Lib.hid hl1
  have HL2 := Lib.hid hl2
  clear hX hXn ha hb hl1 hl2
  go_enter Try.func30, Try.ntmps30
  go_wp2_with fail
  go_loopw [6, 7] (fun vo vi wr => ∃ (i : Nat) (ao : Option Addr) (co : Nat), i ≤ n ∧ vi = .int .i64 i ∧ vo = .slice ao i co ∧ BOwn wr w.heap.size ao i co (X.take i) ∧ w.grownBy wr none) (fun _ vi _ => n - (intOf vi).toNat)
  case atStart => exact ⟨0, none, 0, Nat.zero_le _, rfl, rfl, Own.nil _ _ _ _ _, World.grownBy.refl _ _⟩
  case round =>
    obtain ⟨i, ao, co, hi, rfl, rfl, ho, hg⟩ := hrel
    have HO := Lib.hid ho
    have HG := Lib.hid hg
    clear ho hg
    by_cases hlt : i < n
    · have h1 : i < l1.length := by rw [HL1.out]; exact hlt
      have h2 : i < l2.length := by rw [HL2.out]; exact hlt
      obtain ⟨ga, oa, rfl⟩ := BLies.addr HA.out (by omega)
      obtain ⟨gb, ob, rfl⟩ := BLies.addr HB.out (by omega)
      obtain ⟨xb, hxb⟩ : ∃ xb, xb = l1[i] := ⟨_, rfl⟩
      obtain ⟨yb, hyb⟩ : ∃ yb, yb = l2[i] := ⟨_, rfl⟩
      have hca := cell_in HA.out h1 rfl
      have hcb := cell_in HB.out h2 rfl
      rw [← hxb] at hca
      rw [← hyb] at hcb
      have hold : ∀ {g k : Nat} {v : Value}, w.cell? ⟨g, k, none⟩ = some v → ∀ u, Ch (In ao co) wr u → u.cell? ⟨g, k, none⟩ = some v := fun {g k v} hc u hu => by
        have hgw : g < w.heap.size := World.block_lt_of_cell? w _ hc
        have hgr : g < wr.heap.size := Nat.lt_of_lt_of_le hgw HG.out.size
        exact (World.cell?_of_block (hu.block g hgr (fun h => by have := (Own.inn HO.out h).1; omega))).trans ((World.cell?_of_block (HG.out.block g hgw (by simp))).trans hc)
      have hc1 := hold hca
      have hc2 := hold hcb
      have hxo : bits .xor .u8 (xb.toNat : Int) (yb.toNat : Int) = ((xb ^^^ yb).toNat : Int) := xor_u8' xb yb
      have htk : (X.take i).map bval ++ [.int .u8 ((xb ^^^ yb).toNat : Int)] = (X.take (i + 1)).map bval := by
        have hXi : i < X.length := by rw [HXN.out]; exact hlt
        have e : X[i] = xb ^^^ yb := by
          have e2 : X[i]? = some (l1[i] ^^^ l2[i]) := by
            rw [HX.out, xorL, List.getElem?_zipWith, List.getElem?_eq_getElem h1, List.getElem?_eq_getElem h2]
          rw [List.getElem?_eq_getElem hXi] at e2
          rw [Option.some.inj e2, hxb, hyb]
        rw [List.take_succ_eq_append_getElem hXi, List.map_append, e]
        rfl
      have HC1 := Lib.hid hc1
      have HC2 := Lib.hid hc2
      have HXO := Lib.hid hxo
      have HTK := Lib.hid htk
      have HLB : Hid (i < n) := hlt
      have HWS : Hid (w.heap.size ≤ wr.heap.size) := HG.out.size
      clear hold hc1 hc2 hxo htk hca hcb hxb hyb h1 h2
      go_wp2_with fail
      refine wp_regionX (AppS wr w.heap.size 5 ao i co ((X.take i).map bval)) 12 (by kernel_rfl) ⟨Ch.ofNone (grownBy_drewN wr 1 none) _, HO.out⟩ ?_
      refine wpX_take 0 (v := .slice ao i co) (oi := { dst := some 19, op := Op.move (Operand.tmp 6), type := 22, pos := "ref.go:77", after := #[], guard := none }) (oL := { dst := some 6, op := Op.assign (Operand.tmp 30), type := 22, pos := "ref.go:77", after := #[{ on := 11, ground := Ground.data }, { on := 11, ground := Ground.chain }, { on := 0, ground := Ground.phase }, { on := 1, ground := Ground.phase }, { on := 2, ground := Ground.phase }, { on := 3, ground := Ground.phase }, { on := 4, ground := Ground.phase }, { on := 5, ground := Ground.phase }, { on := 6, ground := Ground.phase }, { on := 7, ground := Ground.phase }, { on := 8, ground := Ground.phase }, { on := 9, ground := Ground.phase }, { on := 10, ground := Ground.phase }, { on := 11, ground := Ground.phase }], guard := none }) (clo_app _ _ _ _ _ _ _) rfl rfl rfl (by kernel_rfl) (by kernel_rfl) (by kernel_rfl) (by kernel_rfl) (by kernel_rfl) (fun _ _ _ h => h) (YG.val (by rfl) (fun _ _ => rfl)) ?_
      simp only [Act.put, List.setIfInBounds_toArray, List.set_cons_zero, List.set_cons_succ]
      refine wpX_take 1 (v := .slice (some ⟨ga, oa, none⟩) n ca) (oi := { dst := some 20, op := Op.move (Operand.tmp 0), type := 22, pos := "ref.go:77", after := #[], guard := none }) (oL := { dst := some 6, op := Op.assign (Operand.tmp 30), type := 22, pos := "ref.go:77", after := #[{ on := 11, ground := Ground.data }, { on := 11, ground := Ground.chain }, { on := 0, ground := Ground.phase }, { on := 1, ground := Ground.phase }, { on := 2, ground := Ground.phase }, { on := 3, ground := Ground.phase }, { on := 4, ground := Ground.phase }, { on := 5, ground := Ground.phase }, { on := 6, ground := Ground.phase }, { on := 7, ground := Ground.phase }, { on := 8, ground := Ground.phase }, { on := 9, ground := Ground.phase }, { on := 10, ground := Ground.phase }, { on := 11, ground := Ground.phase }], guard := none }) (clo_app _ _ _ _ _ _ _) rfl rfl rfl (by kernel_rfl) (by kernel_rfl) (by kernel_rfl) (by kernel_rfl) (by kernel_rfl) (fun _ _ _ h => h) (YG.val (by rfl) (fun _ _ => rfl)) ?_
      simp only [Act.put, List.setIfInBounds_toArray, List.set_cons_zero, List.set_cons_succ]
      refine wpX_take 2 (v := .int .i64 (i : Int)) (oi := { dst := some 21, op := Op.move (Operand.tmp 7), type := 3, pos := "ref.go:77", after := #[], guard := none }) (oL := { dst := some 6, op := Op.assign (Operand.tmp 30), type := 22, pos := "ref.go:77", after := #[{ on := 11, ground := Ground.data }, { on := 11, ground := Ground.chain }, { on := 0, ground := Ground.phase }, { on := 1, ground := Ground.phase }, { on := 2, ground := Ground.phase }, { on := 3, ground := Ground.phase }, { on := 4, ground := Ground.phase }, { on := 5, ground := Ground.phase }, { on := 6, ground := Ground.phase }, { on := 7, ground := Ground.phase }, { on := 8, ground := Ground.phase }, { on := 9, ground := Ground.phase }, { on := 10, ground := Ground.phase }, { on := 11, ground := Ground.phase }], guard := none }) (clo_app _ _ _ _ _ _ _) rfl rfl rfl (by kernel_rfl) (by kernel_rfl) (by kernel_rfl) (by kernel_rfl) (by kernel_rfl) (fun _ _ _ h => h) (YG.val (by rfl) (fun _ _ => rfl)) ?_
      simp only [Act.put, List.setIfInBounds_toArray, List.set_cons_zero, List.set_cons_succ]
      refine wpX_take 3 (v := .pointer (some ⟨ga, oa + i, none⟩)) (oi := { dst := some 22, op := Op.indexAddr 22 (Operand.tmp 20) (Operand.tmp 21), type := 0, pos := "ref.go:77", after := #[{ on := 1, ground := Ground.data }, { on := 2, ground := Ground.data }], guard := none }) (oL := { dst := some 6, op := Op.assign (Operand.tmp 30), type := 22, pos := "ref.go:77", after := #[{ on := 11, ground := Ground.data }, { on := 11, ground := Ground.chain }, { on := 0, ground := Ground.phase }, { on := 1, ground := Ground.phase }, { on := 2, ground := Ground.phase }, { on := 3, ground := Ground.phase }, { on := 4, ground := Ground.phase }, { on := 5, ground := Ground.phase }, { on := 6, ground := Ground.phase }, { on := 7, ground := Ground.phase }, { on := 8, ground := Ground.phase }, { on := 9, ground := Ground.phase }, { on := 10, ground := Ground.phase }, { on := 11, ground := Ground.phase }], guard := none }) (clo_app _ _ _ _ _ _ _) rfl rfl rfl (by kernel_rfl) (by kernel_rfl) (by kernel_rfl) (by kernel_rfl) (by kernel_rfl) (fun _ _ _ h => h) (YG.val (by rfl) (fun _ _ => by have hlb := HLB.out; go_simp)) ?_
      simp only [Act.put, List.setIfInBounds_toArray, List.set_cons_zero, List.set_cons_succ]
      refine wpX_take 4 (v := .int .u8 (xb.toNat : Int)) (oi := { dst := some 23, op := Op.load 5 (Operand.tmp 22), type := 5, pos := "ref.go:77", after := #[{ on := 3, ground := Ground.data }], guard := none }) (oL := { dst := some 6, op := Op.assign (Operand.tmp 30), type := 22, pos := "ref.go:77", after := #[{ on := 11, ground := Ground.data }, { on := 11, ground := Ground.chain }, { on := 0, ground := Ground.phase }, { on := 1, ground := Ground.phase }, { on := 2, ground := Ground.phase }, { on := 3, ground := Ground.phase }, { on := 4, ground := Ground.phase }, { on := 5, ground := Ground.phase }, { on := 6, ground := Ground.phase }, { on := 7, ground := Ground.phase }, { on := 8, ground := Ground.phase }, { on := 9, ground := Ground.phase }, { on := 10, ground := Ground.phase }, { on := 11, ground := Ground.phase }], guard := none }) (clo_app _ _ _ _ _ _ _) rfl rfl rfl (by kernel_rfl) (by kernel_rfl) (by kernel_rfl) (by kernel_rfl) (by kernel_rfl) (fun _ _ _ h => h) (YG.val (by rfl) (fun u hu => by have hc := HC1.out u hu.1; go_simp)) ?_
      simp only [Act.put, List.setIfInBounds_toArray, List.set_cons_zero, List.set_cons_succ]
      refine wpX_take 5 (v := .slice (some ⟨gb, ob, none⟩) n cb) (oi := { dst := some 24, op := Op.move (Operand.tmp 1), type := 22, pos := "ref.go:77", after := #[], guard := none }) (oL := { dst := some 6, op := Op.assign (Operand.tmp 30), type := 22, pos := "ref.go:77", after := #[{ on := 11, ground := Ground.data }, { on := 11, ground := Ground.chain }, { on := 0, ground := Ground.phase }, { on := 1, ground := Ground.phase }, { on := 2, ground := Ground.phase }, { on := 3, ground := Ground.phase }, { on := 4, ground := Ground.phase }, { on := 5, ground := Ground.phase }, { on := 6, ground := Ground.phase }, { on := 7, ground := Ground.phase }, { on := 8, ground := Ground.phase }, { on := 9, ground := Ground.phase }, { on := 10, ground := Ground.phase }, { on := 11, ground := Ground.phase }], guard := none }) (clo_app _ _ _ _ _ _ _) rfl rfl rfl (by kernel_rfl) (by kernel_rfl) (by kernel_rfl) (by kernel_rfl) (by kernel_rfl) (fun _ _ _ h => h) (YG.val (by rfl) (fun _ _ => rfl)) ?_
      simp only [Act.put, List.setIfInBounds_toArray, List.set_cons_zero, List.set_cons_succ]
      refine wpX_take 6 (v := .int .i64 (i : Int)) (oi := { dst := some 25, op := Op.move (Operand.tmp 7), type := 3, pos := "ref.go:77", after := #[], guard := none }) (oL := { dst := some 6, op := Op.assign (Operand.tmp 30), type := 22, pos := "ref.go:77", after := #[{ on := 11, ground := Ground.data }, { on := 11, ground := Ground.chain }, { on := 0, ground := Ground.phase }, { on := 1, ground := Ground.phase }, { on := 2, ground := Ground.phase }, { on := 3, ground := Ground.phase }, { on := 4, ground := Ground.phase }, { on := 5, ground := Ground.phase }, { on := 6, ground := Ground.phase }, { on := 7, ground := Ground.phase }, { on := 8, ground := Ground.phase }, { on := 9, ground := Ground.phase }, { on := 10, ground := Ground.phase }, { on := 11, ground := Ground.phase }], guard := none }) (clo_app _ _ _ _ _ _ _) rfl rfl rfl (by kernel_rfl) (by kernel_rfl) (by kernel_rfl) (by kernel_rfl) (by kernel_rfl) (fun _ _ _ h => h) (YG.val (by rfl) (fun _ _ => rfl)) ?_
      simp only [Act.put, List.setIfInBounds_toArray, List.set_cons_zero, List.set_cons_succ]
      refine wpX_take 7 (v := .pointer (some ⟨gb, ob + i, none⟩)) (oi := { dst := some 26, op := Op.indexAddr 22 (Operand.tmp 24) (Operand.tmp 25), type := 0, pos := "ref.go:77", after := #[{ on := 5, ground := Ground.data }, { on := 6, ground := Ground.data }], guard := none }) (oL := { dst := some 6, op := Op.assign (Operand.tmp 30), type := 22, pos := "ref.go:77", after := #[{ on := 11, ground := Ground.data }, { on := 11, ground := Ground.chain }, { on := 0, ground := Ground.phase }, { on := 1, ground := Ground.phase }, { on := 2, ground := Ground.phase }, { on := 3, ground := Ground.phase }, { on := 4, ground := Ground.phase }, { on := 5, ground := Ground.phase }, { on := 6, ground := Ground.phase }, { on := 7, ground := Ground.phase }, { on := 8, ground := Ground.phase }, { on := 9, ground := Ground.phase }, { on := 10, ground := Ground.phase }, { on := 11, ground := Ground.phase }], guard := none }) (clo_app _ _ _ _ _ _ _) rfl rfl rfl (by kernel_rfl) (by kernel_rfl) (by kernel_rfl) (by kernel_rfl) (by kernel_rfl) (fun _ _ _ h => h) (YG.val (by rfl) (fun _ _ => by have hlb := HLB.out; go_simp)) ?_
      simp only [Act.put, List.setIfInBounds_toArray, List.set_cons_zero, List.set_cons_succ]
      refine wpX_take 8 (v := .int .u8 (yb.toNat : Int)) (oi := { dst := some 27, op := Op.load 5 (Operand.tmp 26), type := 5, pos := "ref.go:77", after := #[{ on := 7, ground := Ground.data }], guard := none }) (oL := { dst := some 6, op := Op.assign (Operand.tmp 30), type := 22, pos := "ref.go:77", after := #[{ on := 11, ground := Ground.data }, { on := 11, ground := Ground.chain }, { on := 0, ground := Ground.phase }, { on := 1, ground := Ground.phase }, { on := 2, ground := Ground.phase }, { on := 3, ground := Ground.phase }, { on := 4, ground := Ground.phase }, { on := 5, ground := Ground.phase }, { on := 6, ground := Ground.phase }, { on := 7, ground := Ground.phase }, { on := 8, ground := Ground.phase }, { on := 9, ground := Ground.phase }, { on := 10, ground := Ground.phase }, { on := 11, ground := Ground.phase }], guard := none }) (clo_app _ _ _ _ _ _ _) rfl rfl rfl (by kernel_rfl) (by kernel_rfl) (by kernel_rfl) (by kernel_rfl) (by kernel_rfl) (fun _ _ _ h => h) (YG.val (by rfl) (fun u hu => by have hc := HC2.out u hu.1; go_simp)) ?_
      simp only [Act.put, List.setIfInBounds_toArray, List.set_cons_zero, List.set_cons_succ]
      refine wpX_take 9 (v := .int .u8 ((xb ^^^ yb).toNat : Int)) (oi := { dst := some 28, op := Op.binOp BinOp.xor 5 (Operand.tmp 23) (Operand.tmp 27) 5, type := 5, pos := "ref.go:77", after := #[{ on := 4, ground := Ground.data }, { on := 8, ground := Ground.data }], guard := none }) (oL := { dst := some 6, op := Op.assign (Operand.tmp 30), type := 22, pos := "ref.go:77", after := #[{ on := 11, ground := Ground.data }, { on := 11, ground := Ground.chain }, { on := 0, ground := Ground.phase }, { on := 1, ground := Ground.phase }, { on := 2, ground := Ground.phase }, { on := 3, ground := Ground.phase }, { on := 4, ground := Ground.phase }, { on := 5, ground := Ground.phase }, { on := 6, ground := Ground.phase }, { on := 7, ground := Ground.phase }, { on := 8, ground := Ground.phase }, { on := 9, ground := Ground.phase }, { on := 10, ground := Ground.phase }, { on := 11, ground := Ground.phase }], guard := none }) (clo_app _ _ _ _ _ _ _) rfl rfl rfl (by kernel_rfl) (by kernel_rfl) (by kernel_rfl) (by kernel_rfl) (by kernel_rfl) (fun _ _ _ h => h) (YG.val (by rfl) (fun _ _ => by have hxo := HXO.out; go_simp)) ?_
      simp only [Act.put, List.setIfInBounds_toArray, List.set_cons_zero, List.set_cons_succ]
      refine wpX_step 10 (o := { dst := some 29, op := Op.buildSlice 22 1 #[(0, Operand.tmp 28)], type := 22, pos := "ref.go:77", after := #[{ on := 9, ground := Ground.data }], guard := none }) rfl rfl (by kernel_rfl) (by rfl) (fun u2 hS2 K hK => ?_)
      have HK := Lib.hid hK
      have HS2 := Lib.hid hS2
      clear hK hS2
      have ha2 := World.grownBy_alloc u2 (.cells #[.int .u8 ((xb ^^^ yb).toNat : Int)] 5) none
      refine wp_val_op (v := .slice (some ⟨u2.heap.size, 0, none⟩) 1 1) (w1 := u2.alloc (.cells #[.int .u8 ((xb ^^^ yb).toNat : Int)] 5)) (by go_simp) ?_
      have hrw2 : Row (u2.alloc (.cells #[.int .u8 ((xb ^^^ yb).toNat : Int)] 5)) u2.heap.size 5 #[.int .u8 ((xb ^^^ yb).toNat : Int)] := heap_alloc_new u2 _
      refine HK.out (fun u => AppS wr w.heap.size 5 ao i co ((X.take i).map bval) u ∧ Row u u2.heap.size 5 #[.int .u8 ((xb ^^^ yb).toNat : Int)]) _ _ ⟨clo_app _ _ _ _ _ _ _ _ _ HS2.out ha2, hrw2⟩ (fun u h => h.1) (clo_and (clo_app _ _ _ _ _ _ _) (clo_row _ _ _)) ?_
      simp only [Act.put, List.setIfInBounds_toArray, List.set_cons_zero, List.set_cons_succ]
      clear ha2 hrw2
      have hu26 : wr.heap.size ≤ u2.heap.size := HS2.out.1.size
      refine wpX_step 11 (o := { dst := some 30, op := Op.call { callee := Callee.builtin Builtin.append, args := #[Operand.tmp 19, Operand.tmp 29], argTypes := #[22, 22] }, type := 22, pos := "ref.go:77", after := #[{ on := 0, ground := Ground.data }, { on := 10, ground := Ground.data }], guard := none }) rfl rfl (by kernel_rfl) (by rfl) (fun u3 hS3 K3 hK3 => ?_)
      have HK3 := Lib.hid hK3
      have HS3 := Lib.hid hS3
      clear hK3 hS3
      have hnews : ∀ j u, ([.int .u8 ((xb ^^^ yb).toNat : Int)] : List Value)[j]? = some u → u3.cell? ((⟨u2.heap.size, 0, none⟩ : Addr).add j) = some u := by
        intro j u hu
        have h2 : ((⟨u2.heap.size, 0, none⟩ : Addr).add j) = ⟨u2.heap.size, j, none⟩ := by unfold Addr.add; split <;> simp_all
        rw [h2, Row.cell HS3.out.2]
        simpa using hu
      have hzb : w.heap.size ≤ u3.heap.size := by
        have h1 := HS3.out.1.1.size
        have h2 := HWS.out
        omega
      have hFn : ¬ In ao co u2.heap.size := fun h => by
        have := (Own.inn HO.out h).2
        omega
      obtain ⟨gF, cF, w8, hrun, hown8, hgr8⟩ := run_app (P := Try.prog) (ty := 22) u3 elB HS3.out.1.2 ⟨u2.heap.size, 0, none⟩ 1 1 [.int .u8 ((xb ^^^ yb).toNat : Int)] rfl hnews (by simp [Value.oneCell']) (by unfold maxLen; omega) (by omega) hzb (fun _ _ _ => trivial) (by omega)
      refine wp_val_op (v := .slice (some ⟨gF, 0, none⟩) (i + 1) cF) (w1 := w8) (run_app_op u3 w8 _ (.tmp 19) (.tmp 29) rfl _ hrun) ?_
      refine HK3.out (fun u => (AppS wr w.heap.size 5 ao i co ((X.take i).map bval) u ∧ Row u u2.heap.size 5 #[.int .u8 ((xb ^^^ yb).toNat : Int)]) ∧ w8.grownBy u none) _ _ ⟨⟨⟨HS3.out.1.1.trans hgr8.ch (fun _ _ h => h), own_behind HS3.out.1.2 hown8 hgr8⟩, Row.ch HS3.out.2 hgr8.ch hFn⟩, World.grownBy.refl _ _⟩ (fun u h => h.1) (clo_and (clo_and (clo_app _ _ _ _ _ _ _) (clo_row _ _ _)) (clo_grown _)) ?_
      simp only [Act.put, List.setIfInBounds_toArray, List.set_cons_zero, List.set_cons_succ]
      refine wpX_last (oL := { dst := some 6, op := Op.assign (Operand.tmp 30), type := 22, pos := "ref.go:77", after := #[{ on := 11, ground := Ground.data }, { on := 11, ground := Ground.chain }, { on := 0, ground := Ground.phase }, { on := 1, ground := Ground.phase }, { on := 2, ground := Ground.phase }, { on := 3, ground := Ground.phase }, { on := 4, ground := Ground.phase }, { on := 5, ground := Ground.phase }, { on := 6, ground := Ground.phase }, { on := 7, ground := Ground.phase }, { on := 8, ground := Ground.phase }, { on := 9, ground := Ground.phase }, { on := 10, ground := Ground.phase }, { on := 11, ground := Ground.phase }], guard := none }) rfl (by kernel_rfl) (by kernel_rfl) (by rfl) (fun u4 hS4 K4 hK4 => ?_)
      refine wp_val_op (v := .slice (some ⟨gF, 0, none⟩) (i + 1) cF) (w1 := u4) (by go_simp) (hK4 _ _ ?_)
      simp only [Act.put, List.setIfInBounds_toArray, List.set_cons_zero, List.set_cons_succ]
      have hown9 : BOwn u4 w.heap.size (some ⟨gF, 0, none⟩) (i + 1) cF (X.take (i + 1)) := by
        have h4 : Own u4 w.heap.size 5 1 (some ⟨gF, 0, none⟩) (i + 1) cF ((X.take i).map bval ++ [.int .u8 ((xb ^^^ yb).toNat : Int)]) := Own.ch hown8 (Ch.ofNone hS4.2 (fun _ => False)) (fun _ _ _ h => h)
        rw [HTK.out] at h4
        exact h4
      have hg9 : w.grownBy u4 none := Ch.fresh HG.out hS4.1.1.1 (fun g hg h => by have := (Own.inn HO.out h).1; omega)
      have HOWN9 := Lib.hid hown9
      have HG9 := Lib.hid hg9
      clear hown9 hg9 hS4 hgr8 hown8 hrun hFn hnews hu26 hzb HK3 HK HS2 HS3 HC1 HC2 HXO HTK HO HG hK4
      go_wp2_with fail
      go_roundw
      case rel => exact ⟨i + 1, _, _, by omega, by go_num, rfl, HOWN9.out, HG9.out⟩
      case measure => simp [intOf]; omega
    · obtain rfl : i = n := by omega
      have htk : X.take i = X := List.take_of_length_le (by rw [HXN.out]; exact Nat.le_refl _)
      rw [htk] at HO
      go_wp2_with fail
      go_ret2
      exact ⟨_, _, rfl, HO.out, HG.out⟩

set_option maxRecDepth 100000 in
theorem refXor_ne (aa ab : Option Addr) (n m ca cb : Nat) (w : World) (he : n ≠ m) :
    Calls Try.prog 30 #[.slice aa n ca, .slice ab m cb] w fun e w' => e = .returned (.tuple #[.slice none 0 0, .int .i64 12]) ∧ w = w' := by
  have hd : decide ((n : Int) = (m : Int)) = false := by simp; omega
  have hd2 : ((n : Int) == (m : Int)) = false := by simp; omega
  go_enter Try.func30, Try.ntmps30
  go_wp2_with fail
  go_ret2
  exact ⟨rfl, rfl⟩

end Go.Proofs.Ythemlaibjchjpaa

