/- Helpers and contracts of the proofs over this seat: CtrCiphersL. Each states what a function of the program answers, or is plain Lean; its conditions stand in each statement. -/
import Derived.Lib.AppendZeros
import Derived.Test.YtblgdfamomlklaaPtAA
import Derived.Test.YtblgdfamomlklaaPtAB
import Derived.Test.YtblgdfamomlklaaPtAC
import Derived.Test.YtblgdfamomlklaaPtAD
import Derived.Test.YtblgdfamomlklaaPtAE
import Derived.Test.YtblgdfamomlklaaPtAF
import Derived.Test.YtblgdfamomlklaaPtAH
import Derived.Test.YtblgdfamomlklaaPtAJ
import Derived.Test.YtblgdfamomlklaaPtAK
import Derived.Test.YtblgdfamomlklaaPtAN
import Derived.Test.YtblgdfamomlklaaPtAP
set_option linter.unusedVariables false
/- The law CtrCiphers. Printed by gens/ctrciphers.py. -/
namespace Go.Proofs.Ytblgdfamomlklaa
open Go.RowKit

theorem wp_normal {P : Program} {c : Code} {Q : Exit → Act → World → Prop} {a : Act} {w : World} (h : c.wp P (QN fun a w => Q .normal a w) a w) : c.wp P Q a w :=
  wp_mono h (fun e a w h => by obtain ⟨rfl, h⟩ := h; exact h)
theorem keys_range0 {w : World} {b : Nat} {key other : List UInt8} (hk : key.length = 16) (h : Row w b 27 (cellsB (key ++ other))) : w.rangeAt b 0 (key.map bval) := by
  intro j v hj
  have hjl : j < key.length := by
    rcases Nat.lt_or_ge j key.length with h | h
    · exact h
    · rw [List.getElem?_eq_none (by simpa using h)] at hj; cases hj
  rw [Row.cell h (0 + j), Nat.zero_add, ← hj]
  unfold cellsB
  rw [List.getElem?_toArray, List.map_append, List.getElem?_append_left (by simpa using hjl)]
theorem keys_range1 {w : World} {b : Nat} {key other : List UInt8} (hk : key.length = 16) (h : Row w b 27 (cellsB (key ++ other))) : w.rangeAt b 16 (other.map bval) := by
  intro j v hj
  rw [Row.cell h (16 + j), ← hj]
  unfold cellsB
  rw [List.getElem?_toArray, List.map_append, List.getElem?_append_right (by simp [hk])]
  simp [hk]
theorem CipC.chC {S : Nat → Prop} {w w' : World} {g : Nat} {key : List UInt8} {x : Int} (h : CipC w g key x) (hc : Ch S w w') (hS : ¬ S g) : CipC w' g key x := Row.ch h hc hS
theorem size_act : (Try.prog.info? 55).map (·.size) = some 4 := by kernel_rfl
theorem info_act : ∃ i z, Try.prog.info? 55 = some i ∧ i.zero = some z ∧ i.size = z.cells.size ∧ z.cells.size = 4 := ⟨(Try.prog.info? 55).getD default, .agg #[.int .i64 0, .int .i64 0, .int .i64 0, .slice none 0 0], by kernel_rfl, by kernel_rfl, by kernel_rfl, by kernel_rfl⟩

set_option maxRecDepth 100000 in
set_option maxHeartbeats 4000000 in
theorem run_keys (key other : List UInt8) (hk : key.length = 16) (ho : other.length = 16) (w : World) (ev : Operand → Value) {o : Oper} (x y : Operand) (hop : o.op = .buildSlice 52 2 #[(0, x), (1, y)]) (hx : ev x = .agg (cellsB key)) (hy : ev y = .agg (cellsB other)) :
    (execOp ev o).run Try.prog w = .ok (.value (.slice (some ⟨w.heap.size, 0, none⟩) 2 2)) (w.alloc (.cells (cellsB (key ++ other)) 27)) := by
  obtain ⟨i, hi, hiz, his, _⟩ := info_parts (show (Try.prog.info? 27).map (fun i => (i.zero, i.size, i.bytes)) = some (some (.agg (cellsB (List.replicate 16 0))), 16, 16) by kernel_rfl)
  obtain ⟨k0, k1, k2, k3, k4, k5, k6, k7, k8, k9, k10, k11, k12, k13, k14, k15, rfl⟩ := key16 hk
  obtain ⟨o0, o1, o2, o3, o4, o5, o6, o7, o8, o9, o10, o11, o12, o13, o14, o15, rfl⟩ := key16 ho
  unfold execOp
  simp only [hop]
  simp [Instr.buildSlice, run_underlying Try.underlying52, sizeOf, typeInfo, hi, his, zeroValue, hiz, hx, hy, newRow, cellsB, bval]
  first | done | rfl | kernel_rfl | trace_state

set_option maxRecDepth 100000 in
set_option maxHeartbeats 8000000 in
theorem ciphers_walk (key other : List UInt8) (hk : key.length = 16) (ho : other.length = 16) (a2 : Option Addr) (n2 c2 : Nat) (w : World) (hn2 : n2 ≤ 1048576)
    (hsc : ∀ i, i < n2 → ∃ b off x y z sa sn sc l, a2 = some ⟨b, off, none⟩ ∧ w.rangeAt b (off + i * 4) [.int .i64 x, .int .i64 y, .int .i64 z, .slice sa sn sc] ∧ BLies w sa l ∧ l.length = sn ∧ sn ≤ sc) :
    Calls Try.prog 8 #[aggB key, aggB other, .slice a2 n2 c2] w fun e w' => e = .returned (.bool true) ∧ w.grownBy w' none := by
  have HSC := Lib.hid hsc
  clear hsc
  obtain ⟨iA, zA, hiA, hiAz, hiAs, hiAc⟩ := info_act
  unfold aggB
  go_enter Try.func8, Try.ntmps8
  go_upto_region 1 with (first
    | (refine wpList_boxed rfl rfl (cellsB key) rfl ?_; intro w1 hs g hr; have G1 := Lib.hid g; have R3 := Lib.hid (show Row w1 w.heap.size 27 (cellsB key) from hr); clear hs g hr)
    | (refine wpList_boxed rfl rfl (cellsB other) rfl ?_; intro w2 hs g hr; have G2 := Lib.hid (grownBy_trans G1.out g); have R32 := Lib.hid (R3.out.grown g); have R4 := Lib.hid (show Row w2 w1.heap.size 27 (cellsB other) from hr); clear hs g hr))
  obtain ⟨b3, hb3⟩ : ∃ b3, b3 = w.heap.size := ⟨_, rfl⟩
  obtain ⟨b4, hb4⟩ : ∃ b4, b4 = w1.heap.size := ⟨_, rfl⟩
  rw [← hb3] at R32 ⊢
  rw [← hb4] at R4 ⊢
  have Y4 : Hid (w.heap.size ≤ w2.heap.size) := Lib.hid G2.out.size
  clear hb3 hb4 R3 G1
  refine wp_regionX (fun u => w2.grownBy u none) 5 (by kernel_rfl) (grownBy_drewN w2 1 none) ?_
  refine wpX_take 0 (v := .agg (cellsB key)) (oi := { dst := some 22, op := Op.load 27 (Operand.tmp 3), type := 27, pos := "law.go:81", after := #[], guard := none }) (oL := { dst := some 7, op := Op.assign (Operand.tmp 26), type := 51, pos := "law.go:81", after := #[{ on := 4, ground := Ground.data }, { on := 3, ground := Ground.chain }, { on := 0, ground := Ground.phase }, { on := 1, ground := Ground.phase }, { on := 2, ground := Ground.phase }, { on := 3, ground := Ground.phase }, { on := 4, ground := Ground.phase }], guard := none }) (clo_grown _) rfl rfl rfl (by kernel_rfl) (by kernel_rfl) (by kernel_rfl) (by kernel_rfl) (by kernel_rfl) (fun _ _ _ h => h) (YG.val (by rfl) (fun u hu => run_load_op u _ 27 (.tmp 3) rfl b3 rfl 27 _ (R32.out.grown hu) Try.underlying27 rfl (by rw [size_key, cellsB_size]; rw [hk]))) ?_
  simp only [Act.put, List.setIfInBounds_toArray, List.set_cons_zero, List.set_cons_succ]
  refine wpX_take 2 (v := .agg (cellsB other)) (oi := { dst := some 24, op := Op.load 27 (Operand.tmp 4), type := 27, pos := "law.go:81", after := #[], guard := none }) (oL := { dst := some 7, op := Op.assign (Operand.tmp 26), type := 51, pos := "law.go:81", after := #[{ on := 4, ground := Ground.data }, { on := 3, ground := Ground.chain }, { on := 0, ground := Ground.phase }, { on := 1, ground := Ground.phase }, { on := 2, ground := Ground.phase }, { on := 3, ground := Ground.phase }, { on := 4, ground := Ground.phase }], guard := none }) (clo_grown _) rfl rfl rfl (by kernel_rfl) (by kernel_rfl) (by kernel_rfl) (by kernel_rfl) (by kernel_rfl) (fun _ _ _ h => h) (YG.val (by rfl) (fun u hu => run_load_op u _ 27 (.tmp 4) rfl b4 rfl 27 _ (R4.out.grown hu) Try.underlying27 rfl (by rw [size_key, cellsB_size]; rw [ho]))) ?_
  simp only [Act.put, List.setIfInBounds_toArray, List.set_cons_zero, List.set_cons_succ]
  refine wpX_step 1 (o := { dst := some 23, op := Op.call { callee := Callee.value (Operand.func 28), args := #[Operand.tmp 22], argTypes := #[27] }, type := 49, pos := "law.go:81", after := #[{ on := 0, ground := Ground.data }], guard := none }) rfl rfl (by kernel_rfl) (by rfl) (fun u2 hS2 K hK => ?_)
  have HK := Lib.hid hK
  have HS := Lib.hid hS2
  clear hK hS2
  refine wp_call_op (f := 28) (args := #[.agg (cellsB key)]) (w1 := u2) (by go_simp) ((newc_n key hk u2).mono ?_)
  rintro e w3 ⟨g0, rfl, hc, hge, g⟩
  have Gw3 := Lib.hid (grownBy_trans HS.out g)
  have Zw3 := Lib.hid HS.out.size
  have C0 := Lib.hid hc
  have Y0 : Hid (w.heap.size ≤ g0 ∧ g0 < w3.heap.size) := Lib.hid ⟨by have := Y4.out; have := HS.out.size; omega, hc.lt⟩
  clear hc hge
  refine ⟨_, rfl, HK.out (fun u => w3.grownBy u none) _ _ (World.grownBy.refl _ _) (fun u h => grownBy_trans Gw3.out h) (clo_grown w3) ?_⟩
  clear HK HS g
  simp only [Act.put, List.setIfInBounds_toArray, List.set_cons_zero, List.set_cons_succ]
  refine wpX_step 3 (o := { dst := some 25, op := Op.call { callee := Callee.value (Operand.func 28), args := #[Operand.tmp 24], argTypes := #[27] }, type := 49, pos := "law.go:81", after := #[{ on := 2, ground := Ground.data }, { on := 1, ground := Ground.chain }], guard := none }) rfl rfl (by kernel_rfl) (by rfl) (fun u2 hS2 K hK => ?_)
  have HK := Lib.hid hK
  have HS := Lib.hid hS2
  clear hK hS2
  refine wp_call_op (f := 28) (args := #[.agg (cellsB other)]) (w1 := u2) (by go_simp) ((newc_n other ho u2).mono ?_)
  rintro e w4 ⟨g1, rfl, hc, hge, g⟩
  have Gw4 := Lib.hid (grownBy_trans HS.out g)
  have Zw4 := Lib.hid HS.out.size
  replace C0 := Lib.hid ((C0.out.grown HS.out).grown g)
  have C1 := Lib.hid hc
  have Y1 : Hid (g0 < g1 ∧ g1 < w4.heap.size) := Lib.hid ⟨by have := Y0.out; have := HS.out.size; omega, hc.lt⟩
  clear hc hge
  refine ⟨_, rfl, HK.out (fun u => w4.grownBy u none) _ _ (World.grownBy.refl _ _) (fun u h => grownBy_trans Gw4.out h) (clo_grown w4) ?_⟩
  clear HK HS g
  simp only [Act.put, List.setIfInBounds_toArray, List.set_cons_zero, List.set_cons_succ]
  refine wpX_step 4 (o := { dst := some 26, op := Op.buildSlice 51 2 #[(0, Operand.tmp 23), (1, Operand.tmp 25)], type := 51, pos := "law.go:81", after := #[{ on := 1, ground := Ground.data }, { on := 3, ground := Ground.data }], guard := none }) rfl rfl (by kernel_rfl) (by rfl) (fun u2 hS2 K hK => ?_)
  have HK := Lib.hid hK
  have HS := Lib.hid hS2
  clear hK hS2
  refine wp_val_op (v := .slice (some ⟨u2.heap.size, 0, none⟩) 2 2) (w1 := u2.alloc (.cells #[.pointer (some ⟨g0, 0, none⟩), .pointer (some ⟨g1, 0, none⟩)] 49)) (by go_simp) ?_
  obtain ⟨w5, hW⟩ : ∃ w5, w5 = u2.alloc (.cells #[.pointer (some ⟨g0, 0, none⟩), .pointer (some ⟨g1, 0, none⟩)] 49) := ⟨_, rfl⟩
  have g : u2.grownBy w5 none := hW ▸ World.grownBy_alloc _ _ _
  have hr : Row w5 u2.heap.size 49 #[.pointer (some ⟨g0, 0, none⟩), .pointer (some ⟨g1, 0, none⟩)] := hW ▸ heap_alloc_new u2 _
  rw [← hW]
  obtain ⟨bl, hb⟩ : ∃ bl, bl = u2.heap.size := ⟨_, rfl⟩
  rw [← hb] at hr ⊢
  have Gw5 := Lib.hid (grownBy_trans HS.out g)
  have Zw5 := Lib.hid HS.out.size
  replace C0 := Lib.hid ((C0.out.grown HS.out).grown g)
  replace C1 := Lib.hid ((C1.out.grown HS.out).grown g)
  have RL := Lib.hid hr
  have YL : Hid (g1 < bl ∧ bl < w5.heap.size) := Lib.hid ⟨by have := Y1.out; have := HS.out.size; omega, hr.lt⟩
  clear hr hb hW
  refine HK.out (fun u => w5.grownBy u none) _ _ (World.grownBy.refl _ _) (fun u h => grownBy_trans Gw5.out h) (clo_grown w5) ?_
  clear HK HS g
  simp only [Act.put, List.setIfInBounds_toArray, List.set_cons_zero, List.set_cons_succ]
  refine wpX_last (oL := { dst := some 7, op := Op.assign (Operand.tmp 26), type := 51, pos := "law.go:81", after := #[{ on := 4, ground := Ground.data }, { on := 3, ground := Ground.chain }, { on := 0, ground := Ground.phase }, { on := 1, ground := Ground.phase }, { on := 2, ground := Ground.phase }, { on := 3, ground := Ground.phase }, { on := 4, ground := Ground.phase }], guard := none }) rfl (by kernel_rfl) (by kernel_rfl) (by rfl) (fun u4 hS4 K4 hK4 => ?_)
  refine wp_val_op (v := .slice (some ⟨bl, 0, none⟩) 2 2) (w1 := u4) (by rfl) (hK4 _ _ ?_)
  simp only [Act.put, List.setIfInBounds_toArray, List.set_cons_zero, List.set_cons_succ]
  obtain ⟨w6, h6⟩ : ∃ w6, w6 = u4 := ⟨_, rfl⟩
  rw [← h6] at hS4 ⊢
  replace C0 := Lib.hid (C0.out.grown hS4)
  replace C1 := Lib.hid (C1.out.grown hS4)
  replace RL := Lib.hid (RL.out.grown hS4)
  have g26 := grownBy_trans (grownBy_trans (grownBy_trans Gw3.out Gw4.out) Gw5.out) hS4
  have HG := Lib.hid (grownBy_trans G2.out g26)
  have R36 := Lib.hid (R32.out.grown g26)
  have R46 := Lib.hid (R4.out.grown g26)
  have Z6 := Lib.hid hS4.size
  clear h6 hS4 hK4 g26 Gw3 Gw4 Gw5 Zw3 Zw4 Zw5 G2 R32 R4
  go_upto_region 2 with fail
  refine wp_region_lit ?_
  refine wpList_load_row rfl 27 _ rfl b3 rfl 27 (cellsB key) (0, 0) _ R36.out Try.underlying27 rfl (by rw [size_key, cellsB_size, hk]) ?_
  refine wpList_load_row rfl 27 _ rfl b4 rfl 27 (cellsB other) (0, 0) _ R46.out Try.underlying27 rfl (by rw [size_key, cellsB_size, ho]) ?_
  refine wpList_valp rfl (run_keys key other hk ho w6 _ (.tmp 27) (.tmp 28) rfl rfl rfl) ?_
  obtain ⟨w7, h7⟩ : ∃ w7, w7 = w6.alloc (.cells (cellsB (key ++ other)) 27) := ⟨_, rfl⟩
  have g7 : w6.grownBy w7 none := h7 ▸ World.grownBy_alloc _ _ _
  have hr7 : Row w7 w6.heap.size 27 (cellsB (key ++ other)) := h7 ▸ heap_alloc_new w6 _
  rw [← h7]
  clear h7
  simp only [Act.put, List.setIfInBounds_toArray, List.set_cons_zero, List.set_cons_succ]
  go_upto_region 4 with fail
  obtain ⟨w8, h8⟩ : ∃ w8, w8 = w7.alloc (.cells #[.int .i64 0, .int .i64 0] 3) := ⟨_, rfl⟩
  have g8 : w7.grownBy w8 none := h8 ▸ World.grownBy_alloc _ _ _
  have hr8 : Row w8 w7.heap.size 3 #[.int .i64 0, .int .i64 0] := h8 ▸ heap_alloc_new w7 _
  rw [← h8]
  clear h8
  obtain ⟨bk, hbk⟩ : ∃ bk, bk = w6.heap.size := ⟨_, rfl⟩
  obtain ⟨ba, hba⟩ : ∃ ba, ba = w7.heap.size := ⟨_, rfl⟩
  have YK : Hid (w6.heap.size ≤ bk ∧ bk < ba ∧ ba < w8.heap.size) := Lib.hid ⟨by rw [hbk]; exact Nat.le_refl _, by rw [hbk, hba]; exact hr7.lt, by rw [hba]; exact hr8.lt⟩
  rw [← hbk] at hr7 ⊢
  rw [← hba] at hr8 ⊢
  have g := grownBy_trans g7 g8
  replace C0 := Lib.hid (C0.out.grown g)
  replace C1 := Lib.hid (C1.out.grown g)
  replace RL := Lib.hid (RL.out.grown g)
  have RK := Lib.hid (hr7.grown g8)
  have RA := Lib.hid hr8
  replace HG := Lib.hid (grownBy_trans HG.out g)
  have cl0 := Row.cell RL.out 0
  have cl1 := Row.cell RL.out 1
  simp at cl0 cl1
  clear g g7 g8 hr7 hr8 hbk hba R36 R46
  go_wp2_with fail
  clear cl0 cl1
  obtain ⟨base, hbase⟩ : ∃ base, base = w8.heap.size := ⟨_, rfl⟩
  have ORD : Hid (w.heap.size ≤ g0 ∧ g0 < g1 ∧ g1 < bl ∧ bl < bk ∧ bk < ba ∧ ba < base ∧ base ≤ w8.heap.size) := Lib.hid (by
    have h1 := Y0.out; have h2 := Y1.out; have h3 := YL.out; have h4 := YK.out; have h5 := Z6.out; have h6 := Y4.out; omega)
  clear hbase Y0 Y1 YL YK Z6 Y4
  go_loopw [10, 11, 12] (fun vg vw vi wr => ∃ (i : Nat) (ag : Option Addr) (m cg : Nat) (Lg : List Sl) (aw : Option Addr) (cw : Nat) (Lw : List Sl) (bs : List (List UInt8)) (x0 x1 : Int), vg = .slice ag m cg ∧ vw = .slice aw m cw ∧ vi = .int .i64 (i : Int) ∧ i ≤ n2 ∧ CipC wr g0 key x0 ∧ CipC wr g1 other x1 ∧ Row wr bl 49 #[.pointer (some ⟨g0, 0, none⟩), .pointer (some ⟨g1, 0, none⟩)] ∧ Row wr bk 27 (cellsB (key ++ other)) ∧ Row wr ba 3 #[.int .i64 x0, .int .i64 x1] ∧ LIs wr base ag m cg bs Lg ∧ LIs wr base aw m cw bs Lw ∧ (∀ x, In ag cg x → In aw cw x → False) ∧ m ≤ i ∧ (∀ x ∈ bs, x.length ≤ 3000) ∧ base ≤ wr.heap.size ∧ w.grownBy wr none) (fun _ _ i _ => n2 - (intOf i).toNat)
  case atStart => exact ⟨0, none, 0, 0, [], none, 0, [], [], 0, 0, rfl, rfl, rfl, by omega, C0.out, C1.out, RL.out, RK.out, RA.out, ⟨Own.nil _ _ _ _ _, rfl, fun i h => absurd h (by simp), fun i j h => absurd h (by simp)⟩, ⟨Own.nil _ _ _ _ _, rfl, fun i h => absurd h (by simp), fun i j h => absurd h (by simp)⟩, fun x h => absurd h.1 (by omega), by omega, fun x h => absurd h (by simp), ORD.out.2.2.2.2.2.2, HG.out⟩
  case round =>
    obtain ⟨i, ag, m, cg, Lg, aw, cw, Lw, bs, x0, x1, rfl, rfl, rfl, hi, hc0, hc1, hrl, hrk, hra, hlg, hlw, hdj, hmi, hbx, hbz, hgr⟩ := hrel
    clear C0 C1 RL RK RA HG
    have C0 := Lib.hid hc0
    have C1 := Lib.hid hc1
    have RL := Lib.hid hrl
    have RK := Lib.hid hrk
    have RA := Lib.hid hra
    have LG := Lib.hid hlg
    have LW := Lib.hid hlw
    have DJ := Lib.hid hdj
    have BX := Lib.hid hbx
    have BZ := Lib.hid hbz
    have GR := Lib.hid hgr
    by_cases hlt : i < n2
    · obtain ⟨bS, oS, x, y, z, sa, sn, sc, l, rfl, hrow, hsl, hll, hsnc⟩ := HSC.out i hlt
      have hrow' : wr.rangeAt bS (oS + i * 4) [.int .i64 x, .int .i64 y, .int .i64 z, .slice sa sn sc] := fun j v hj => by
        have h1 := hrow j v hj
        exact (World.cell?_of_block (hgr.block bS (World.block_lt_of_cell? w _ h1) (by simp))).trans h1
      have HROW := Lib.hid hrow'
      have HSL := Lib.hid hsl
      have HLL := Lib.hid hll
      have HM := Lib.hid (show bs.length = m by have h1 := LG.out.outer.len; have h2 := LG.out.len; omega)
      clear hc0 hc1 hrl hrk hra hlg hlw hdj hbx hbz hgr hrow hrow' hsl hll
      go_upto_region 11 with (first
        | (refine wpList_load_mid rfl 55 _ rfl bS (oS + i * 4) rfl [.int .i64 x, .int .i64 y, .int .i64 z, .slice sa sn sc] _ HROW.out Try.underlying55 rfl (by rw [size_act]; rfl) ?_)
        | (refine wpList_fresh rfl rfl rfl rfl rfl hiA hiAz hiAs #[.int .i64 x, .int .i64 y, .int .i64 z, .slice sa sn sc] rfl rfl hiAc (by simp [Value.oneCell']) ?_; intro v1 hs g hr; have HG1 := Lib.hid g; have HV1 := Lib.hid (show Row v1 wr.heap.size 55 #[.int .i64 x, .int .i64 y, .int .i64 z, .slice sa sn sc] from hr); clear hs g hr))
      obtain ⟨bv, hbv⟩ : ∃ bv, bv = wr.heap.size := ⟨_, rfl⟩
      have YV : Hid (base ≤ bv ∧ bv < v1.heap.size) := Lib.hid ⟨by rw [hbv]; exact BZ.out, by rw [hbv]; exact HV1.out.lt⟩
      have YW : Hid (wr.heap.size ≤ bv) := Lib.hid (by rw [hbv]; exact Nat.le_refl _)
      rw [← hbv] at HV1 ⊢
      clear hbv
      have RV := HV1
      have g := HG1.out
      have LG0 := LG
      have LW0 := LW
      have BZ0 := BZ
      replace C0 := Lib.hid (C0.out.grown g)
      replace C1 := Lib.hid (C1.out.grown g)
      replace RL := Lib.hid (RL.out.grown g)
      replace RK := Lib.hid (RK.out.grown g)
      replace RA := Lib.hid (RA.out.grown g)
      replace LG := Lib.hid (LG.out.grown g)
      replace LW := Lib.hid (LW.out.grown g)
      replace GR := Lib.hid (grownBy_trans GR.out g)
      replace BZ := Lib.hid (Nat.le_trans BZ.out g.size)
      have c0 := Row.cell RV.out 0
      have c1 := Row.cell RV.out 1
      have c2 := Row.cell RV.out 2
      have c3 := Row.cell RV.out 3
      have cl0 := Row.cell RL.out 0
      have cl1 := Row.cell RL.out 1
      simp at c0 c1 c2 c3 cl0 cl1
      clear g HV1 HG1
      go_wp2_with fail
      refine (pick_n x 2 (by omega) (by omega) v1).mono ?_
      rintro e w' ⟨⟨pk, rfl, hpk⟩, rfl⟩
      rcases (show (pk : Int) = 0 ∨ (pk : Int) = 1 by omega) with e | e
      · rw [e]
        clear e hpk
        by_cases hbig : 3000 < sn
        · have hd : decide ((3000 : Int) < (sn : Int)) = true := decide_eq_true (by omega)
          have hd2 : decide (3000 < sn) = true := decide_eq_true hbig
          go_wp2_with fail
          go_roundw
          case rel => exact ⟨i + 1, ag, m, cg, Lg, aw, cw, Lw, bs, x0, x1, rfl, rfl, by go_num, by omega, C0.out, C1.out, RL.out, RK.out, RA.out, LG.out, LW.out, DJ.out, by omega, BX.out, BZ.out, GR.out⟩
          case measure => simp [intOf]; omega
        · have hd : decide ((3000 : Int) < (sn : Int)) = false := decide_eq_false (by omega)
          have hd2 : decide (3000 < sn) = false := decide_eq_false hbig
          by_cases hy0 : y = 0
          · subst hy0
            by_cases hz : z < 0 ∨ 4611686018427387904 < z
            · have hE : skE z = 40 := if_pos hz
              have hP : skP x0 z = x0 := if_pos hz
              have HT := Lib.hid (seek_n key hk g0 x0 z v1 C0.out)
              rw [hE, hP] at HT
              clear hE hP
              rcases (show z < 0 ∨ (¬ z < 0 ∧ 4611686018427387904 < z) by omega) with hz1 | ⟨hz1, hz2⟩
              · have hzd : decide (z < 0) = true := decide_eq_true hz1
                go_wp2_with fail
                refine HT.out.mono ?_
                rintro e v2 ⟨rfl, hc, g⟩
                have ch : Ch (fun x => x = g0) _ v2 := Ch.ofSome g rfl
                obtain ⟨o1, o2, o3, o4, o5, o6, o7⟩ := ORD.out
                replace C0 := Lib.hid hc
                replace C1 := Lib.hid (CipC.chC C1.out ch (by omega))
                replace RL := Lib.hid (Row.ch RL.out ch (by omega))
                replace RK := Lib.hid (Row.ch RK.out ch (by omega))
                replace RA := Lib.hid (Row.ch RA.out ch (by omega))
                replace LG := Lib.hid (LG.out.chB ch (fun x hx => by omega))
                replace LW := Lib.hid (LW.out.chB ch (fun x hx => by omega))
                replace GR := Lib.hid (Ch.fresh GR.out ch (fun x hx h => by omega))
                replace BZ := Lib.hid (Nat.le_trans BZ.out ch.size)
                clear hc g ch o1 o2 o3 o4 o5 o6 o7 c0 c1 c2 c3 cl0 cl1
                go_wp2_with fail
                go_roundw
                case rel => exact ⟨i + 1, ag, m, cg, Lg, aw, cw, Lw, bs, x0, x1, rfl, rfl, by go_num, by omega, C0.out, C1.out, RL.out, RK.out, RA.out, LG.out, LW.out, DJ.out, by omega, BX.out, BZ.out, GR.out⟩
                case measure => simp [intOf]; omega
              · have hzd : decide (z < 0) = false := decide_eq_false hz1
                have hzd2 : decide (4611686018427387904 < z) = true := decide_eq_true hz2
                go_wp2_with fail
                refine HT.out.mono ?_
                rintro e v2 ⟨rfl, hc, g⟩
                have ch : Ch (fun x => x = g0) _ v2 := Ch.ofSome g rfl
                obtain ⟨o1, o2, o3, o4, o5, o6, o7⟩ := ORD.out
                replace C0 := Lib.hid hc
                replace C1 := Lib.hid (CipC.chC C1.out ch (by omega))
                replace RL := Lib.hid (Row.ch RL.out ch (by omega))
                replace RK := Lib.hid (Row.ch RK.out ch (by omega))
                replace RA := Lib.hid (Row.ch RA.out ch (by omega))
                replace LG := Lib.hid (LG.out.chB ch (fun x hx => by omega))
                replace LW := Lib.hid (LW.out.chB ch (fun x hx => by omega))
                replace GR := Lib.hid (Ch.fresh GR.out ch (fun x hx h => by omega))
                replace BZ := Lib.hid (Nat.le_trans BZ.out ch.size)
                clear hc g ch o1 o2 o3 o4 o5 o6 o7 c0 c1 c2 c3 cl0 cl1
                go_wp2_with fail
                go_roundw
                case rel => exact ⟨i + 1, ag, m, cg, Lg, aw, cw, Lw, bs, x0, x1, rfl, rfl, by go_num, by omega, C0.out, C1.out, RL.out, RK.out, RA.out, LG.out, LW.out, DJ.out, by omega, BX.out, BZ.out, GR.out⟩
                case measure => simp [intOf]; omega
            · have hzd : decide (z < 0) = false := decide_eq_false (by omega)
              have hzd2 : decide (4611686018427387904 < z) = false := decide_eq_false (by omega)
              have hE : skE z = 0 := if_neg hz
              have hP : skP x0 z = z := if_neg hz
              have ca := Row.cell RA.out 0
              have fa := Row.frozen RA.out 0
              simp at ca
              obtain ⟨vs, hvs⟩ : ∃ vs, vs = v1.setCell ⟨ba, 0, none⟩ (.int .i64 z) := ⟨_, rfl⟩
              have gs : v1.grownBy vs (some ba) := hvs ▸ grownBy_setCell _ _ _ _
              have rs : Row vs ba 3 #[.int .i64 z, .int .i64 x1] := hvs ▸ Row.setc RA.out 0 _
              have HVS := Lib.hid hvs
              have HRS := Lib.hid rs
              have HGS := Lib.hid gs
              clear hvs gs rs
              go_upto_region 32 with fail
              rw [← HVS.out]
              have ch : Ch (fun x => x = ba) v1 vs := Ch.ofSome HGS.out rfl
              obtain ⟨o1, o2, o3, o4, o5, o6, o7⟩ := ORD.out
              have yv := YV.out
              replace RA := HRS
              replace C0 := Lib.hid (CipC.chC C0.out ch (by omega))
              replace C1 := Lib.hid (CipC.chC C1.out ch (by omega))
              replace RL := Lib.hid (Row.ch RL.out ch (by omega))
              replace RK := Lib.hid (Row.ch RK.out ch (by omega))
              replace RV := Lib.hid (Row.ch RV.out ch (by omega))
              replace LG := Lib.hid (LG.out.chB ch (fun x hx => by omega))
              replace LW := Lib.hid (LW.out.chB ch (fun x hx => by omega))
              replace GR := Lib.hid (Ch.fresh GR.out ch (fun x hx h => by omega))
              replace BZ := Lib.hid (Nat.le_trans BZ.out ch.size)
              have c2' := Row.cell RV.out 2
              simp at c2'
              have HT := Lib.hid (seek_n key hk g0 x0 z vs C0.out)
              rw [hE, hP] at HT
              clear hE hP ch o1 o2 o3 o4 o5 o6 o7 yv ca fa HVS HRS HGS c0 c1 c2 c3 cl0 cl1
              go_wp2_with fail
              refine HT.out.mono ?_
              rintro e v2 ⟨rfl, hc, g⟩
              have ch : Ch (fun x => x = g0) _ v2 := Ch.ofSome g rfl
              obtain ⟨o1, o2, o3, o4, o5, o6, o7⟩ := ORD.out
              replace C0 := Lib.hid hc
              replace C1 := Lib.hid (CipC.chC C1.out ch (by omega))
              replace RL := Lib.hid (Row.ch RL.out ch (by omega))
              replace RK := Lib.hid (Row.ch RK.out ch (by omega))
              replace RA := Lib.hid (Row.ch RA.out ch (by omega))
              replace LG := Lib.hid (LG.out.chB ch (fun x hx => by omega))
              replace LW := Lib.hid (LW.out.chB ch (fun x hx => by omega))
              replace GR := Lib.hid (Ch.fresh GR.out ch (fun x hx h => by omega))
              replace BZ := Lib.hid (Nat.le_trans BZ.out ch.size)
              clear hc g ch o1 o2 o3 o4 o5 o6 o7 c2'
              go_wp2_with fail
              go_roundw
              case rel => exact ⟨i + 1, ag, m, cg, Lg, aw, cw, Lw, bs, z, x1, rfl, rfl, by go_num, by omega, C0.out, C1.out, RL.out, RK.out, RA.out, LG.out, LW.out, DJ.out, by omega, BX.out, BZ.out, GR.out⟩
              case measure => simp [intOf]; omega
          by_cases hy1 : y = 1
          · subst hy1
            go_upto_region 35 with fail
            refine wp_normal ?_
            refine wp_regionY (fun u => v1.grownBy u none) 6 (by kernel_rfl) (grownBy_drewN v1 1 none) ?_
            refine wpY_take 1 0 (v := .pointer (some ⟨g0, 0, none⟩)) (oi := { dst := some 145, op := Op.move (Operand.tmp 15), type := 49, pos := "law.go:107", after := #[], guard := none }) (oL := { dst := some 151, op := Op.binOp BinOp.neq 3 (Operand.tmp 146) (Operand.tmp 150) 3, type := 4, pos := "law.go:107", after := #[{ on := 1, ground := Ground.data }, { on := 5, ground := Ground.data }], guard := none }) (clo_grown _) rfl rfl rfl (by kernel_rfl) (by kernel_rfl) (by kernel_rfl) (by kernel_rfl) (by kernel_rfl) (fun _ _ _ h => by cases h.1) (YG.val (by rfl) (fun _ _ => by go_simp)) ?_
            simp only [Act.put, List.setIfInBounds_toArray, List.set_cons_zero, List.set_cons_succ]
            refine wpY_take 0 1 (v := .int .i64 x0) (oi := { dst := some 146, op := Op.call { callee := Callee.value (Operand.func 30), args := #[Operand.tmp 145], argTypes := #[49] }, type := 3, pos := "law.go:107", after := #[{ on := 0, ground := Ground.data }], guard := none }) (oL := { dst := some 151, op := Op.binOp BinOp.neq 3 (Operand.tmp 146) (Operand.tmp 150) 3, type := 4, pos := "law.go:107", after := #[{ on := 1, ground := Ground.data }, { on := 5, ground := Ground.data }], guard := none }) (clo_grown _) rfl rfl rfl (by kernel_rfl) (by kernel_rfl) (by kernel_rfl) (by kernel_rfl) (by kernel_rfl) (fun _ _ _ h => by cases h.1) (YG.call (by rfl) (fun _ => by go_simp) (fun u hu => (atc_n key hk g0 x0 u (C0.out.grown hu)).mono fun e w2 h => ⟨h.1, h.2 ▸ World.grownBy.refl _ _⟩)) ?_
            simp only [Act.put, List.setIfInBounds_toArray, List.set_cons_zero, List.set_cons_succ]
            refine wpY_take 2 2 (v := .slice (some ⟨ba, 0, none⟩) 2 2) (oi := { dst := some 147, op := Op.move (Operand.tmp 9), type := 53, pos := "law.go:107", after := #[], guard := none }) (oL := { dst := some 151, op := Op.binOp BinOp.neq 3 (Operand.tmp 146) (Operand.tmp 150) 3, type := 4, pos := "law.go:107", after := #[{ on := 1, ground := Ground.data }, { on := 5, ground := Ground.data }], guard := none }) (clo_grown _) rfl rfl rfl (by kernel_rfl) (by kernel_rfl) (by kernel_rfl) (by kernel_rfl) (by kernel_rfl) (fun _ _ _ h => by cases h.1) (YG.val (by rfl) (fun _ _ => by go_simp)) ?_
            simp only [Act.put, List.setIfInBounds_toArray, List.set_cons_zero, List.set_cons_succ]
            refine wpY_take 2 3 (v := .int .i64 0) (oi := { dst := some 148, op := Op.move (Operand.tmp 14), type := 3, pos := "law.go:107", after := #[], guard := none }) (oL := { dst := some 151, op := Op.binOp BinOp.neq 3 (Operand.tmp 146) (Operand.tmp 150) 3, type := 4, pos := "law.go:107", after := #[{ on := 1, ground := Ground.data }, { on := 5, ground := Ground.data }], guard := none }) (clo_grown _) rfl rfl rfl (by kernel_rfl) (by kernel_rfl) (by kernel_rfl) (by kernel_rfl) (by kernel_rfl) (fun _ _ _ h => by cases h.1) (YG.val (by rfl) (fun _ _ => by go_simp)) ?_
            simp only [Act.put, List.setIfInBounds_toArray, List.set_cons_zero, List.set_cons_succ]
            refine wpY_take 1 4 (v := .pointer (some ⟨ba, 0, none⟩)) (oi := { dst := some 149, op := Op.indexAddr 53 (Operand.tmp 147) (Operand.tmp 148), type := 0, pos := "law.go:107", after := #[{ on := 2, ground := Ground.data }, { on := 3, ground := Ground.data }], guard := none }) (oL := { dst := some 151, op := Op.binOp BinOp.neq 3 (Operand.tmp 146) (Operand.tmp 150) 3, type := 4, pos := "law.go:107", after := #[{ on := 1, ground := Ground.data }, { on := 5, ground := Ground.data }], guard := none }) (clo_grown _) rfl rfl rfl (by kernel_rfl) (by kernel_rfl) (by kernel_rfl) (by kernel_rfl) (by kernel_rfl) (fun _ _ _ h => by cases h.1) (YG.val (by rfl) (fun _ _ => by go_simp)) ?_
            simp only [Act.put, List.setIfInBounds_toArray, List.set_cons_zero, List.set_cons_succ]
            refine wpY_take 0 5 (v := .int .i64 x0) (oi := { dst := some 150, op := Op.load 3 (Operand.tmp 149), type := 3, pos := "law.go:107", after := #[{ on := 4, ground := Ground.data }], guard := none }) (oL := { dst := some 151, op := Op.binOp BinOp.neq 3 (Operand.tmp 146) (Operand.tmp 150) 3, type := 4, pos := "law.go:107", after := #[{ on := 1, ground := Ground.data }, { on := 5, ground := Ground.data }], guard := none }) (clo_grown _) rfl rfl rfl (by kernel_rfl) (by kernel_rfl) (by kernel_rfl) (by kernel_rfl) (by kernel_rfl) (fun _ _ _ h => by cases h.1) (YG.val (by rfl) (fun u hu => by have c := Row.cell (RA.out.grown hu) 0; simp at c; go_simp)) ?_
            simp only [Act.put, List.setIfInBounds_toArray, List.set_cons_zero, List.set_cons_succ]
            refine wpY_last (oL := { dst := some 151, op := Op.binOp BinOp.neq 3 (Operand.tmp 146) (Operand.tmp 150) 3, type := 4, pos := "law.go:107", after := #[{ on := 1, ground := Ground.data }, { on := 5, ground := Ground.data }], guard := none }) rfl (by kernel_rfl) (by rfl) (fun u hS K hK => ?_)
            refine wp_val_op (v := .bool false) (w1 := u) (by go_simp) (hK _ _ ?_)
            simp only [Act.put, List.setIfInBounds_toArray, List.set_cons_zero, List.set_cons_succ]
            refine wpAny_done (by kernel_rfl) ?_ _
            refine ⟨rfl, ?_⟩
            obtain ⟨v2, hv2⟩ : ∃ v2, v2 = u := ⟨_, rfl⟩
            rw [← hv2] at hS ⊢
            have g := hS
            replace C0 := Lib.hid (C0.out.grown g)
            replace C1 := Lib.hid (C1.out.grown g)
            replace RL := Lib.hid (RL.out.grown g)
            replace RK := Lib.hid (RK.out.grown g)
            replace RA := Lib.hid (RA.out.grown g)
            replace LG := Lib.hid (LG.out.grown g)
            replace LW := Lib.hid (LW.out.grown g)
            replace GR := Lib.hid (grownBy_trans GR.out g)
            replace BZ := Lib.hid (Nat.le_trans BZ.out g.size)
            clear hv2 hS hK g c0 c1 c2 c3 cl0 cl1
            go_wp2_with fail
            go_roundw
            case rel => exact ⟨i + 1, ag, m, cg, Lg, aw, cw, Lw, bs, x0, x1, rfl, rfl, by go_num, by omega, C0.out, C1.out, RL.out, RK.out, RA.out, LG.out, LW.out, DJ.out, by omega, BX.out, BZ.out, GR.out⟩
            case measure => simp [intOf]; omega
          · have hyd : decide (y = 0) = false := decide_eq_false hy0
            have hyd1 : decide (y = 1) = false := decide_eq_false hy1
            go_wp2_with fail
            refine (lent_n sa sc sn l v1 (HSL.out.grown GR.out) HLL.out (by omega)).mono ?_
            rintro e v2 ⟨gF, cF, rfl, oF, g⟩
            have hccF := oF.cap.1
            have YF : Hid (v1.heap.size ≤ gF ∧ gF < v2.heap.size) := Lib.hid (by obtain ⟨g', e, h1, h2⟩ := Own.block oF (by omega); injection e with e; injection e with e; subst e; exact ⟨h1, h2⟩)
            have OF := Lib.hid oF
            have Z2 := Lib.hid g.size
            replace C0 := Lib.hid (C0.out.grown g)
            replace C1 := Lib.hid (C1.out.grown g)
            replace RL := Lib.hid (RL.out.grown g)
            replace RK := Lib.hid (RK.out.grown g)
            replace RA := Lib.hid (RA.out.grown g)
            replace LG := Lib.hid (LG.out.grown g)
            replace LW := Lib.hid (LW.out.grown g)
            replace RV := Lib.hid (RV.out.grown g)
            replace GR := Lib.hid (grownBy_trans GR.out g)
            replace BZ := Lib.hid (Nat.le_trans BZ.out g.size)
            have Z02 := Lib.hid (show wr.heap.size ≤ v2.heap.size by have h1 := YW.out; have h2 := RV.out.lt; omega)
            clear oF g c0 c1 c2 c3 cl0 cl1
            have c3 := Row.cell RV.out 3
            simp at c3
            have HNX := Lib.hid (next_n key hk g0 x0 (some ⟨gF, 0, none⟩) sn cF l HLL.out (by omega) v2 C0.out (by have h := (BOwn.lies OF.out).take sn; rwa [lent_take _ _ HLL.out] at h))
            go_wp2_with (refine wpList_valp rfl (run_pre_op _ _ (.tmp 69) (.tmp 72) rfl gF (sn + 70) cF sn rfl rfl (by omega)) ?_)
            refine HNX.out.mono ?_
            rintro e v3 ⟨al, ml, cl, rfl, ol, hc, g⟩
            have ch : Ch (fun x => x = g0) v2 v3 := Ch.ofSome g rfl
            obtain ⟨o1, o2, o3, o4, o5, o6, o7⟩ := ORD.out
            have yv := YV.out
            have yf := YF.out
            have OL := Lib.hid ol
            replace OF := Lib.hid (show BOwn v3 v1.heap.size (some ⟨gF, 0, none⟩) (sn + 70) cF (lent l) from Own.ch OF.out ch (fun _ q e h => by injection e with e; injection e with e; omega))
            replace C0 := Lib.hid hc
            replace C1 := Lib.hid (CipC.chC C1.out ch (by omega))
            replace RL := Lib.hid (Row.ch RL.out ch (by omega))
            replace RK := Lib.hid (Row.ch RK.out ch (by omega))
            replace RA := Lib.hid (Row.ch RA.out ch (by omega))
            replace RV := Lib.hid (Row.ch RV.out ch (by omega))
            replace LG := Lib.hid (LG.out.chB ch (fun x hx => by omega))
            replace LW := Lib.hid (LW.out.chB ch (fun x hx => by omega))
            replace GR := Lib.hid (Ch.fresh GR.out ch (fun x hx h => by omega))
            replace BZ := Lib.hid (Nat.le_trans BZ.out ch.size)
            clear ol hc g ch o1 o2 o3 o4 o5 o6 o7 yv yf c3 HNX
            have c3 := Row.cell RV.out 3
            simp at c3
            go_wp2_with fail
            refine (kept_yes (some ⟨gF, 0, none⟩) sa cF sc sn (sn + 70) l v3 (BOwn.lies OF.out) (HSL.out.grown GR.out) HLL.out rfl (by omega)).mono ?_
            rintro e v4 ⟨rfl, g⟩
            replace C0 := Lib.hid (C0.out.grown g)
            replace C1 := Lib.hid (C1.out.grown g)
            replace RL := Lib.hid (RL.out.grown g)
            replace RK := Lib.hid (RK.out.grown g)
            replace RA := Lib.hid (RA.out.grown g)
            replace LG := Lib.hid (LG.out.grown g)
            replace LW := Lib.hid (LW.out.grown g)
            replace RV := Lib.hid (RV.out.grown g)
            replace OF := Lib.hid (OF.out.grown g)
            replace OL := Lib.hid (OL.out.grown g)
            replace GR := Lib.hid (grownBy_trans GR.out g)
            replace BZ := Lib.hid (Nat.le_trans BZ.out g.size)
            clear g c3
            go_wp2_with fail
            refine (over_n v1.heap.size gF cF (sn + 70) (lent l) v4 OF.out (by omega)).mono ?_
            rintro e v5 ⟨rfl, _, g⟩
            have ch : Ch (fun x => x = gF) v4 v5 := Ch.ofSome g rfl
            obtain ⟨o1, o2, o3, o4, o5, o6, o7⟩ := ORD.out
            have yv := YV.out
            have yf := YF.out
            have yw := YW.out
            have OL1 := Lib.hid (show BOwn v5 v2.heap.size al ml cl (apL key x0 l) from Own.ch OL.out ch (fun h0 q e h => by
              obtain ⟨q', e', h1, _⟩ := Own.block OL.out h0
              rw [e'] at e
              obtain rfl : q' = q := congrArg Addr.block (Option.some.inj e)
              omega))
            replace LG := Lib.hid (LG.out.chT ch (fun q h e => by have := (Own.inn LG0.out.outer h).2; omega) (fun j hj q h e => by have := (Own.inn (LG0.out.inner j hj (by have := LG0.out.len; omega)) h).2; omega))
            replace LW := Lib.hid (LW.out.chT ch (fun q h e => by have := (Own.inn LW0.out.outer h).2; omega) (fun j hj q h e => by have := (Own.inn (LW0.out.inner j hj (by have := LW0.out.len; omega)) h).2; omega))
            replace C0 := Lib.hid (CipC.chC C0.out ch (by omega))
            replace C1 := Lib.hid (CipC.chC C1.out ch (by omega))
            replace RL := Lib.hid (Row.ch RL.out ch (by omega))
            replace RK := Lib.hid (Row.ch RK.out ch (by omega))
            replace RA := Lib.hid (Row.ch RA.out ch (by omega))
            replace RV := Lib.hid (Row.ch RV.out ch (by omega))
            replace GR := Lib.hid (Ch.fresh GR.out ch (fun x hx h => by omega))
            replace BZ := Lib.hid (Nat.le_trans BZ.out ch.size)
            clear g ch o1 o2 o3 o4 o5 o6 o7 yv yf yw OF OL
            have Z05 := Lib.hid (show wr.heap.size ≤ v5.heap.size by have h1 := YW.out; have h2 := RV.out.lt; omega)
            go_upto_region 20 with fail
            refine wp_normal ?_
            refine wp_regionX (fun u => v5.grownBy u none) 15 (by kernel_rfl) (grownBy_drewN v5 1 none) ?_
            refine wpX_take 0 (v := .slice (some ⟨bk, 0, none⟩) 2 2) (oi := { dst := some 85, op := Op.move (Operand.tmp 8), type := 52, pos := "law.go:117", after := #[], guard := none }) (oL := { dst := some 21, op := Op.assign (Operand.tmp 97), type := 36, pos := "law.go:117", after := #[{ on := 13, ground := Ground.data }, { on := 14, ground := Ground.chain }, { on := 0, ground := Ground.phase }, { on := 1, ground := Ground.phase }, { on := 2, ground := Ground.phase }, { on := 3, ground := Ground.phase }, { on := 4, ground := Ground.phase }, { on := 5, ground := Ground.phase }, { on := 6, ground := Ground.phase }, { on := 7, ground := Ground.phase }, { on := 8, ground := Ground.phase }, { on := 9, ground := Ground.phase }, { on := 10, ground := Ground.phase }, { on := 11, ground := Ground.phase }, { on := 12, ground := Ground.phase }, { on := 13, ground := Ground.phase }, { on := 14, ground := Ground.phase }], guard := none }) (clo_grown _) rfl rfl rfl (by kernel_rfl) (by kernel_rfl) (by kernel_rfl) (by kernel_rfl) (by kernel_rfl) (fun _ _ _ h => by cases h.1) (YG.val (by rfl) (fun _ _ => by go_simp)) ?_
            simp only [Act.put, List.setIfInBounds_toArray, List.set_cons_zero, List.set_cons_succ]
            refine wpX_take 1 (v := .int .i64 0) (oi := { dst := some 86, op := Op.move (Operand.tmp 14), type := 3, pos := "law.go:117", after := #[], guard := none }) (oL := { dst := some 21, op := Op.assign (Operand.tmp 97), type := 36, pos := "law.go:117", after := #[{ on := 13, ground := Ground.data }, { on := 14, ground := Ground.chain }, { on := 0, ground := Ground.phase }, { on := 1, ground := Ground.phase }, { on := 2, ground := Ground.phase }, { on := 3, ground := Ground.phase }, { on := 4, ground := Ground.phase }, { on := 5, ground := Ground.phase }, { on := 6, ground := Ground.phase }, { on := 7, ground := Ground.phase }, { on := 8, ground := Ground.phase }, { on := 9, ground := Ground.phase }, { on := 10, ground := Ground.phase }, { on := 11, ground := Ground.phase }, { on := 12, ground := Ground.phase }, { on := 13, ground := Ground.phase }, { on := 14, ground := Ground.phase }], guard := none }) (clo_grown _) rfl rfl rfl (by kernel_rfl) (by kernel_rfl) (by kernel_rfl) (by kernel_rfl) (by kernel_rfl) (fun _ _ _ h => by cases h.1) (YG.val (by rfl) (fun _ _ => by go_simp)) ?_
            simp only [Act.put, List.setIfInBounds_toArray, List.set_cons_zero, List.set_cons_succ]
            refine wpX_take 2 (v := .pointer (some ⟨bk, 0, none⟩)) (oi := { dst := some 87, op := Op.indexAddr 52 (Operand.tmp 85) (Operand.tmp 86), type := 0, pos := "law.go:117", after := #[{ on := 0, ground := Ground.data }, { on := 1, ground := Ground.data }], guard := none }) (oL := { dst := some 21, op := Op.assign (Operand.tmp 97), type := 36, pos := "law.go:117", after := #[{ on := 13, ground := Ground.data }, { on := 14, ground := Ground.chain }, { on := 0, ground := Ground.phase }, { on := 1, ground := Ground.phase }, { on := 2, ground := Ground.phase }, { on := 3, ground := Ground.phase }, { on := 4, ground := Ground.phase }, { on := 5, ground := Ground.phase }, { on := 6, ground := Ground.phase }, { on := 7, ground := Ground.phase }, { on := 8, ground := Ground.phase }, { on := 9, ground := Ground.phase }, { on := 10, ground := Ground.phase }, { on := 11, ground := Ground.phase }, { on := 12, ground := Ground.phase }, { on := 13, ground := Ground.phase }, { on := 14, ground := Ground.phase }], guard := none }) (clo_grown _) rfl rfl rfl (by kernel_rfl) (by kernel_rfl) (by kernel_rfl) (by kernel_rfl) (by kernel_rfl) (fun _ _ _ h => by cases h.1) (YG.val (by rfl) (fun _ _ => by go_simp)) ?_
            simp only [Act.put, List.setIfInBounds_toArray, List.set_cons_zero, List.set_cons_succ]
            refine wpX_take 3 (v := .agg (cellsB key)) (oi := { dst := some 88, op := Op.load 27 (Operand.tmp 87), type := 27, pos := "law.go:117", after := #[{ on := 2, ground := Ground.data }], guard := none }) (oL := { dst := some 21, op := Op.assign (Operand.tmp 97), type := 36, pos := "law.go:117", after := #[{ on := 13, ground := Ground.data }, { on := 14, ground := Ground.chain }, { on := 0, ground := Ground.phase }, { on := 1, ground := Ground.phase }, { on := 2, ground := Ground.phase }, { on := 3, ground := Ground.phase }, { on := 4, ground := Ground.phase }, { on := 5, ground := Ground.phase }, { on := 6, ground := Ground.phase }, { on := 7, ground := Ground.phase }, { on := 8, ground := Ground.phase }, { on := 9, ground := Ground.phase }, { on := 10, ground := Ground.phase }, { on := 11, ground := Ground.phase }, { on := 12, ground := Ground.phase }, { on := 13, ground := Ground.phase }, { on := 14, ground := Ground.phase }], guard := none }) (clo_grown _) rfl rfl rfl (by kernel_rfl) (by kernel_rfl) (by kernel_rfl) (by kernel_rfl) (by kernel_rfl) (fun _ _ _ h => by cases h.1) (YG.row (by rfl) 27 (.tmp 87) rfl bk 0 rfl (key.map bval) _ (fun u hu => keys_range0 hk (RK.out.grown hu)) Try.underlying27 rfl (by rw [size_key, List.length_map, hk])) ?_
            simp only [Act.put, List.setIfInBounds_toArray, List.set_cons_zero, List.set_cons_succ]
            refine wpX_take 4 (v := .slice (some ⟨ba, 0, none⟩) 2 2) (oi := { dst := some 89, op := Op.move (Operand.tmp 9), type := 53, pos := "law.go:117", after := #[], guard := none }) (oL := { dst := some 21, op := Op.assign (Operand.tmp 97), type := 36, pos := "law.go:117", after := #[{ on := 13, ground := Ground.data }, { on := 14, ground := Ground.chain }, { on := 0, ground := Ground.phase }, { on := 1, ground := Ground.phase }, { on := 2, ground := Ground.phase }, { on := 3, ground := Ground.phase }, { on := 4, ground := Ground.phase }, { on := 5, ground := Ground.phase }, { on := 6, ground := Ground.phase }, { on := 7, ground := Ground.phase }, { on := 8, ground := Ground.phase }, { on := 9, ground := Ground.phase }, { on := 10, ground := Ground.phase }, { on := 11, ground := Ground.phase }, { on := 12, ground := Ground.phase }, { on := 13, ground := Ground.phase }, { on := 14, ground := Ground.phase }], guard := none }) (clo_grown _) rfl rfl rfl (by kernel_rfl) (by kernel_rfl) (by kernel_rfl) (by kernel_rfl) (by kernel_rfl) (fun _ _ _ h => by cases h.1) (YG.val (by rfl) (fun _ _ => by go_simp)) ?_
            simp only [Act.put, List.setIfInBounds_toArray, List.set_cons_zero, List.set_cons_succ]
            refine wpX_take 5 (v := .int .i64 0) (oi := { dst := some 90, op := Op.move (Operand.tmp 14), type := 3, pos := "law.go:117", after := #[], guard := none }) (oL := { dst := some 21, op := Op.assign (Operand.tmp 97), type := 36, pos := "law.go:117", after := #[{ on := 13, ground := Ground.data }, { on := 14, ground := Ground.chain }, { on := 0, ground := Ground.phase }, { on := 1, ground := Ground.phase }, { on := 2, ground := Ground.phase }, { on := 3, ground := Ground.phase }, { on := 4, ground := Ground.phase }, { on := 5, ground := Ground.phase }, { on := 6, ground := Ground.phase }, { on := 7, ground := Ground.phase }, { on := 8, ground := Ground.phase }, { on := 9, ground := Ground.phase }, { on := 10, ground := Ground.phase }, { on := 11, ground := Ground.phase }, { on := 12, ground := Ground.phase }, { on := 13, ground := Ground.phase }, { on := 14, ground := Ground.phase }], guard := none }) (clo_grown _) rfl rfl rfl (by kernel_rfl) (by kernel_rfl) (by kernel_rfl) (by kernel_rfl) (by kernel_rfl) (fun _ _ _ h => by cases h.1) (YG.val (by rfl) (fun _ _ => by go_simp)) ?_
            simp only [Act.put, List.setIfInBounds_toArray, List.set_cons_zero, List.set_cons_succ]
            refine wpX_take 6 (v := .pointer (some ⟨ba, 0, none⟩)) (oi := { dst := some 91, op := Op.indexAddr 53 (Operand.tmp 89) (Operand.tmp 90), type := 0, pos := "law.go:117", after := #[{ on := 4, ground := Ground.data }, { on := 5, ground := Ground.data }], guard := none }) (oL := { dst := some 21, op := Op.assign (Operand.tmp 97), type := 36, pos := "law.go:117", after := #[{ on := 13, ground := Ground.data }, { on := 14, ground := Ground.chain }, { on := 0, ground := Ground.phase }, { on := 1, ground := Ground.phase }, { on := 2, ground := Ground.phase }, { on := 3, ground := Ground.phase }, { on := 4, ground := Ground.phase }, { on := 5, ground := Ground.phase }, { on := 6, ground := Ground.phase }, { on := 7, ground := Ground.phase }, { on := 8, ground := Ground.phase }, { on := 9, ground := Ground.phase }, { on := 10, ground := Ground.phase }, { on := 11, ground := Ground.phase }, { on := 12, ground := Ground.phase }, { on := 13, ground := Ground.phase }, { on := 14, ground := Ground.phase }], guard := none }) (clo_grown _) rfl rfl rfl (by kernel_rfl) (by kernel_rfl) (by kernel_rfl) (by kernel_rfl) (by kernel_rfl) (fun _ _ _ h => by cases h.1) (YG.val (by rfl) (fun _ _ => by go_simp)) ?_
            simp only [Act.put, List.setIfInBounds_toArray, List.set_cons_zero, List.set_cons_succ]
            refine wpX_take 7 (v := .int .i64 x0) (oi := { dst := some 92, op := Op.load 3 (Operand.tmp 91), type := 3, pos := "law.go:117", after := #[{ on := 6, ground := Ground.data }], guard := none }) (oL := { dst := some 21, op := Op.assign (Operand.tmp 97), type := 36, pos := "law.go:117", after := #[{ on := 13, ground := Ground.data }, { on := 14, ground := Ground.chain }, { on := 0, ground := Ground.phase }, { on := 1, ground := Ground.phase }, { on := 2, ground := Ground.phase }, { on := 3, ground := Ground.phase }, { on := 4, ground := Ground.phase }, { on := 5, ground := Ground.phase }, { on := 6, ground := Ground.phase }, { on := 7, ground := Ground.phase }, { on := 8, ground := Ground.phase }, { on := 9, ground := Ground.phase }, { on := 10, ground := Ground.phase }, { on := 11, ground := Ground.phase }, { on := 12, ground := Ground.phase }, { on := 13, ground := Ground.phase }, { on := 14, ground := Ground.phase }], guard := none }) (clo_grown _) rfl rfl rfl (by kernel_rfl) (by kernel_rfl) (by kernel_rfl) (by kernel_rfl) (by kernel_rfl) (fun _ _ _ h => by cases h.1) (YG.val (by rfl) (fun u hu => by have c := Row.cell (RA.out.grown hu) 0; simp at c; go_simp)) ?_
            simp only [Act.put, List.setIfInBounds_toArray, List.set_cons_zero, List.set_cons_succ]
            refine wpX_take 8 (v := .pointer (some ⟨bv, 3, none⟩)) (oi := { dst := some 93, op := Op.fieldAddr 55 (Operand.tmp 13) 3, type := 0, pos := "law.go:117", after := #[], guard := none }) (oL := { dst := some 21, op := Op.assign (Operand.tmp 97), type := 36, pos := "law.go:117", after := #[{ on := 13, ground := Ground.data }, { on := 14, ground := Ground.chain }, { on := 0, ground := Ground.phase }, { on := 1, ground := Ground.phase }, { on := 2, ground := Ground.phase }, { on := 3, ground := Ground.phase }, { on := 4, ground := Ground.phase }, { on := 5, ground := Ground.phase }, { on := 6, ground := Ground.phase }, { on := 7, ground := Ground.phase }, { on := 8, ground := Ground.phase }, { on := 9, ground := Ground.phase }, { on := 10, ground := Ground.phase }, { on := 11, ground := Ground.phase }, { on := 12, ground := Ground.phase }, { on := 13, ground := Ground.phase }, { on := 14, ground := Ground.phase }], guard := none }) (clo_grown _) rfl rfl rfl (by kernel_rfl) (by kernel_rfl) (by kernel_rfl) (by kernel_rfl) (by kernel_rfl) (fun _ _ _ h => by cases h.1) (YG.val (by rfl) (fun _ _ => by go_simp)) ?_
            simp only [Act.put, List.setIfInBounds_toArray, List.set_cons_zero, List.set_cons_succ]
            refine wpX_take 9 (v := .slice sa sn sc) (oi := { dst := some 94, op := Op.load 34 (Operand.tmp 93), type := 34, pos := "law.go:117", after := #[{ on := 8, ground := Ground.data }], guard := none }) (oL := { dst := some 21, op := Op.assign (Operand.tmp 97), type := 36, pos := "law.go:117", after := #[{ on := 13, ground := Ground.data }, { on := 14, ground := Ground.chain }, { on := 0, ground := Ground.phase }, { on := 1, ground := Ground.phase }, { on := 2, ground := Ground.phase }, { on := 3, ground := Ground.phase }, { on := 4, ground := Ground.phase }, { on := 5, ground := Ground.phase }, { on := 6, ground := Ground.phase }, { on := 7, ground := Ground.phase }, { on := 8, ground := Ground.phase }, { on := 9, ground := Ground.phase }, { on := 10, ground := Ground.phase }, { on := 11, ground := Ground.phase }, { on := 12, ground := Ground.phase }, { on := 13, ground := Ground.phase }, { on := 14, ground := Ground.phase }], guard := none }) (clo_grown _) rfl rfl rfl (by kernel_rfl) (by kernel_rfl) (by kernel_rfl) (by kernel_rfl) (by kernel_rfl) (fun _ _ _ h => by cases h.1) (YG.val (by rfl) (fun u hu => by have c := Row.cell (RV.out.grown hu) 3; simp at c; go_simp)) ?_
            simp only [Act.put, List.setIfInBounds_toArray, List.set_cons_zero, List.set_cons_succ]
            refine wpX_step 10 (o := { dst := some 95, op := Op.call { callee := Callee.value (Operand.func 23), args := #[Operand.tmp 88, Operand.tmp 92, Operand.tmp 94], argTypes := #[27, 3, 34] }, type := 37, pos := "law.go:117", after := #[{ on := 3, ground := Ground.data }, { on := 7, ground := Ground.data }, { on := 9, ground := Ground.data }], guard := none }) rfl rfl (by kernel_rfl) (by rfl) (fun u2 hS2 K hK => ?_)
            have HK := Lib.hid hK
            have HS := Lib.hid hS2
            clear hK hS2
            refine wp_call_op (f := 23) (args := #[.agg (cellsB key), .int .i64 x0, .slice sa sn sc]) (w1 := u2) (by go_simp) ((refApply_n key hk x0 sa sn sc l HLL.out (by omega) u2 (HSL.out.grown (grownBy_trans GR.out HS.out))).mono ?_)
            rintro e v6 ⟨aw', mw, cw', rfl, ow, g⟩
            have OW := Lib.hid ow
            have G56 := Lib.hid (grownBy_trans HS.out g)
            have Z56 := Lib.hid HS.out.size
            refine ⟨_, rfl, HK.out (fun u => v6.grownBy u none) _ _ (World.grownBy.refl _ _) (fun u h => grownBy_trans G56.out h) (clo_grown v6) ?_⟩
            clear HK HS g ow
            obtain ⟨E, hE⟩ : ∃ E, E = stE x0 (sn : Int) := ⟨_, rfl⟩
            rw [← hE]
            have HE := Lib.hid hE
            clear hE
            simp only [Act.put, List.setIfInBounds_toArray, List.set_cons_zero, List.set_cons_succ]
            refine wpX_take 11 (v := .tuple #[.slice aw' mw cw', .int .i64 E]) (oi := { dst := some 84, op := Op.move (Operand.tmp 95), type := 37, pos := "law.go:117", after := #[{ on := 10, ground := Ground.data }], guard := none }) (oL := { dst := some 21, op := Op.assign (Operand.tmp 97), type := 36, pos := "law.go:117", after := #[{ on := 13, ground := Ground.data }, { on := 14, ground := Ground.chain }, { on := 0, ground := Ground.phase }, { on := 1, ground := Ground.phase }, { on := 2, ground := Ground.phase }, { on := 3, ground := Ground.phase }, { on := 4, ground := Ground.phase }, { on := 5, ground := Ground.phase }, { on := 6, ground := Ground.phase }, { on := 7, ground := Ground.phase }, { on := 8, ground := Ground.phase }, { on := 9, ground := Ground.phase }, { on := 10, ground := Ground.phase }, { on := 11, ground := Ground.phase }, { on := 12, ground := Ground.phase }, { on := 13, ground := Ground.phase }, { on := 14, ground := Ground.phase }], guard := none }) (clo_grown _) rfl rfl rfl (by kernel_rfl) (by kernel_rfl) (by kernel_rfl) (by kernel_rfl) (by kernel_rfl) (fun _ _ _ h => by cases h.1) (YG.val (by rfl) (fun _ _ => by go_simp)) ?_
            simp only [Act.put, List.setIfInBounds_toArray, List.set_cons_zero, List.set_cons_succ]
            refine wpX_take 12 (v := .slice aw' mw cw') (oi := { dst := some 96, op := Op.extract (Operand.tmp 84) 0, type := 34, pos := "law.go:117", after := #[{ on := 11, ground := Ground.data }], guard := none }) (oL := { dst := some 21, op := Op.assign (Operand.tmp 97), type := 36, pos := "law.go:117", after := #[{ on := 13, ground := Ground.data }, { on := 14, ground := Ground.chain }, { on := 0, ground := Ground.phase }, { on := 1, ground := Ground.phase }, { on := 2, ground := Ground.phase }, { on := 3, ground := Ground.phase }, { on := 4, ground := Ground.phase }, { on := 5, ground := Ground.phase }, { on := 6, ground := Ground.phase }, { on := 7, ground := Ground.phase }, { on := 8, ground := Ground.phase }, { on := 9, ground := Ground.phase }, { on := 10, ground := Ground.phase }, { on := 11, ground := Ground.phase }, { on := 12, ground := Ground.phase }, { on := 13, ground := Ground.phase }, { on := 14, ground := Ground.phase }], guard := none }) (clo_grown _) rfl rfl rfl (by kernel_rfl) (by kernel_rfl) (by kernel_rfl) (by kernel_rfl) (by kernel_rfl) (fun _ _ _ h => by cases h.1) (YG.val (by rfl) (fun _ _ => by go_simp)) ?_
            simp only [Act.put, List.setIfInBounds_toArray, List.set_cons_zero, List.set_cons_succ]
            refine wpX_take 13 (v := .int .i64 E) (oi := { dst := some 97, op := Op.extract (Operand.tmp 84) 1, type := 36, pos := "law.go:117", after := #[{ on := 11, ground := Ground.data }, { on := 14, ground := Ground.gcOnly Departure.lateStores }], guard := none }) (oL := { dst := some 21, op := Op.assign (Operand.tmp 97), type := 36, pos := "law.go:117", after := #[{ on := 13, ground := Ground.data }, { on := 14, ground := Ground.chain }, { on := 0, ground := Ground.phase }, { on := 1, ground := Ground.phase }, { on := 2, ground := Ground.phase }, { on := 3, ground := Ground.phase }, { on := 4, ground := Ground.phase }, { on := 5, ground := Ground.phase }, { on := 6, ground := Ground.phase }, { on := 7, ground := Ground.phase }, { on := 8, ground := Ground.phase }, { on := 9, ground := Ground.phase }, { on := 10, ground := Ground.phase }, { on := 11, ground := Ground.phase }, { on := 12, ground := Ground.phase }, { on := 13, ground := Ground.phase }, { on := 14, ground := Ground.phase }], guard := none }) (clo_grown _) rfl rfl rfl (by kernel_rfl) (by kernel_rfl) (by kernel_rfl) (by kernel_rfl) (by kernel_rfl) (fun _ _ _ h => by cases h.1) (YG.val (by rfl) (fun _ _ => by go_simp)) ?_
            simp only [Act.put, List.setIfInBounds_toArray, List.set_cons_zero, List.set_cons_succ]
            refine wpX_take 14 (v := .slice aw' mw cw') (oi := { dst := some 20, op := Op.assign (Operand.tmp 96), type := 34, pos := "law.go:117", after := #[{ on := 12, ground := Ground.data }, { on := 10, ground := Ground.chain }, { on := 0, ground := Ground.phase }, { on := 1, ground := Ground.phase }, { on := 2, ground := Ground.phase }, { on := 3, ground := Ground.phase }, { on := 4, ground := Ground.phase }, { on := 5, ground := Ground.phase }, { on := 6, ground := Ground.phase }, { on := 7, ground := Ground.phase }, { on := 8, ground := Ground.phase }, { on := 9, ground := Ground.phase }, { on := 10, ground := Ground.phase }, { on := 11, ground := Ground.phase }, { on := 12, ground := Ground.phase }, { on := 13, ground := Ground.textOnly Departure.lateStores }], guard := none }) (oL := { dst := some 21, op := Op.assign (Operand.tmp 97), type := 36, pos := "law.go:117", after := #[{ on := 13, ground := Ground.data }, { on := 14, ground := Ground.chain }, { on := 0, ground := Ground.phase }, { on := 1, ground := Ground.phase }, { on := 2, ground := Ground.phase }, { on := 3, ground := Ground.phase }, { on := 4, ground := Ground.phase }, { on := 5, ground := Ground.phase }, { on := 6, ground := Ground.phase }, { on := 7, ground := Ground.phase }, { on := 8, ground := Ground.phase }, { on := 9, ground := Ground.phase }, { on := 10, ground := Ground.phase }, { on := 11, ground := Ground.phase }, { on := 12, ground := Ground.phase }, { on := 13, ground := Ground.phase }, { on := 14, ground := Ground.phase }], guard := none }) (clo_grown _) rfl rfl rfl (by kernel_rfl) (by kernel_rfl) (by kernel_rfl) (by kernel_rfl) (by kernel_rfl) (fun _ _ _ h => by cases h.1) (YG.val (by rfl) (fun _ _ => by go_simp)) ?_
            simp only [Act.put, List.setIfInBounds_toArray, List.set_cons_zero, List.set_cons_succ]
            refine wpX_last (oL := { dst := some 21, op := Op.assign (Operand.tmp 97), type := 36, pos := "law.go:117", after := #[{ on := 13, ground := Ground.data }, { on := 14, ground := Ground.chain }, { on := 0, ground := Ground.phase }, { on := 1, ground := Ground.phase }, { on := 2, ground := Ground.phase }, { on := 3, ground := Ground.phase }, { on := 4, ground := Ground.phase }, { on := 5, ground := Ground.phase }, { on := 6, ground := Ground.phase }, { on := 7, ground := Ground.phase }, { on := 8, ground := Ground.phase }, { on := 9, ground := Ground.phase }, { on := 10, ground := Ground.phase }, { on := 11, ground := Ground.phase }, { on := 12, ground := Ground.phase }, { on := 13, ground := Ground.phase }, { on := 14, ground := Ground.phase }], guard := none }) rfl (by kernel_rfl) (by kernel_rfl) (by rfl) (fun u4 hS4 K4 hK4 => ?_)
            refine wp_val_op (v := .int .i64 E) (w1 := u4) (by go_simp) (hK4 _ _ ?_)
            simp only [Act.put, List.setIfInBounds_toArray, List.set_cons_zero, List.set_cons_succ]
            refine ⟨rfl, ?_⟩
            obtain ⟨v7, hv7⟩ : ∃ v7, v7 = u4 := ⟨_, rfl⟩
            rw [← hv7] at hS4 ⊢
            have g := grownBy_trans G56.out hS4
            have OW1 := Lib.hid (show BOwn v7 v5.heap.size aw' mw cw' (apL key x0 l) from BOwn.grown (BOwn.mono OW.out Z56.out) hS4)
            have Z57 := Lib.hid g.size
            have LW5 := LW
            replace C0 := Lib.hid (C0.out.grown g)
            replace C1 := Lib.hid (C1.out.grown g)
            replace RL := Lib.hid (RL.out.grown g)
            replace RK := Lib.hid (RK.out.grown g)
            replace RA := Lib.hid (RA.out.grown g)
            replace LG := Lib.hid (LG.out.grown g)
            replace LW := Lib.hid (LW.out.grown g)
            replace RV := Lib.hid (RV.out.grown g)
            replace OL1 := Lib.hid (OL1.out.grown g)
            replace GR := Lib.hid (grownBy_trans GR.out g)
            replace BZ := Lib.hid (Nat.le_trans BZ.out g.size)
            clear hv7 hS4 hK4 g OW G56 Z56
            by_cases he : E = 0
            · subst he
              have hsum := stE_le HE.out.symm
              have hnx : nxP x0 sn = x0 + sn := if_pos HE.out.symm
              rw [hnx] at C0
              have HWR := Lib.hid (show IntKind.i64.wrap (x0 + (sn : Int)) = x0 + (sn : Int) from IntWalk.i64_in _ (by omega))
              clear hnx hsum
              go_upto_region 24 with fail
              refine wp_normal ?_
              refine wp_regionX (fun u => v7.grownBy u none) 11 (by kernel_rfl) (grownBy_drewN v7 1 none) ?_
              refine wpX_take 0 (v := .slice (some ⟨ba, 0, none⟩) 2 2) (oi := { dst := some 103, op := Op.move (Operand.tmp 9), type := 53, pos := "law.go:122", after := #[], guard := none }) (oL := { dst := none, op := Op.store 3 (Operand.tmp 113) (Operand.tmp 112), type := 0, pos := "law.go:122", after := #[{ on := 10, ground := Ground.data }, { on := 9, ground := Ground.data }, { on := 0, ground := Ground.phase }, { on := 1, ground := Ground.phase }, { on := 2, ground := Ground.phase }, { on := 3, ground := Ground.phase }, { on := 4, ground := Ground.phase }, { on := 5, ground := Ground.phase }, { on := 6, ground := Ground.phase }, { on := 7, ground := Ground.phase }, { on := 8, ground := Ground.phase }, { on := 9, ground := Ground.phase }], guard := none }) (clo_grown _) rfl rfl rfl (by kernel_rfl) (by kernel_rfl) (by kernel_rfl) (by kernel_rfl) (by kernel_rfl) (fun _ _ _ h => by cases h.1) (YG.val (by rfl) (fun _ _ => by go_simp)) ?_
              simp only [Act.put, List.setIfInBounds_toArray, List.set_cons_zero, List.set_cons_succ]
              refine wpX_take 1 (v := .int .i64 0) (oi := { dst := some 104, op := Op.move (Operand.tmp 14), type := 3, pos := "law.go:122", after := #[], guard := none }) (oL := { dst := none, op := Op.store 3 (Operand.tmp 113) (Operand.tmp 112), type := 0, pos := "law.go:122", after := #[{ on := 10, ground := Ground.data }, { on := 9, ground := Ground.data }, { on := 0, ground := Ground.phase }, { on := 1, ground := Ground.phase }, { on := 2, ground := Ground.phase }, { on := 3, ground := Ground.phase }, { on := 4, ground := Ground.phase }, { on := 5, ground := Ground.phase }, { on := 6, ground := Ground.phase }, { on := 7, ground := Ground.phase }, { on := 8, ground := Ground.phase }, { on := 9, ground := Ground.phase }], guard := none }) (clo_grown _) rfl rfl rfl (by kernel_rfl) (by kernel_rfl) (by kernel_rfl) (by kernel_rfl) (by kernel_rfl) (fun _ _ _ h => by cases h.1) (YG.val (by rfl) (fun _ _ => by go_simp)) ?_
              simp only [Act.put, List.setIfInBounds_toArray, List.set_cons_zero, List.set_cons_succ]
              refine wpX_take 2 (v := .slice (some ⟨ba, 0, none⟩) 2 2) (oi := { dst := some 105, op := Op.move (Operand.tmp 9), type := 53, pos := "law.go:122", after := #[], guard := none }) (oL := { dst := none, op := Op.store 3 (Operand.tmp 113) (Operand.tmp 112), type := 0, pos := "law.go:122", after := #[{ on := 10, ground := Ground.data }, { on := 9, ground := Ground.data }, { on := 0, ground := Ground.phase }, { on := 1, ground := Ground.phase }, { on := 2, ground := Ground.phase }, { on := 3, ground := Ground.phase }, { on := 4, ground := Ground.phase }, { on := 5, ground := Ground.phase }, { on := 6, ground := Ground.phase }, { on := 7, ground := Ground.phase }, { on := 8, ground := Ground.phase }, { on := 9, ground := Ground.phase }], guard := none }) (clo_grown _) rfl rfl rfl (by kernel_rfl) (by kernel_rfl) (by kernel_rfl) (by kernel_rfl) (by kernel_rfl) (fun _ _ _ h => by cases h.1) (YG.val (by rfl) (fun _ _ => by go_simp)) ?_
              simp only [Act.put, List.setIfInBounds_toArray, List.set_cons_zero, List.set_cons_succ]
              refine wpX_take 3 (v := .int .i64 0) (oi := { dst := some 106, op := Op.move (Operand.tmp 14), type := 3, pos := "law.go:122", after := #[], guard := none }) (oL := { dst := none, op := Op.store 3 (Operand.tmp 113) (Operand.tmp 112), type := 0, pos := "law.go:122", after := #[{ on := 10, ground := Ground.data }, { on := 9, ground := Ground.data }, { on := 0, ground := Ground.phase }, { on := 1, ground := Ground.phase }, { on := 2, ground := Ground.phase }, { on := 3, ground := Ground.phase }, { on := 4, ground := Ground.phase }, { on := 5, ground := Ground.phase }, { on := 6, ground := Ground.phase }, { on := 7, ground := Ground.phase }, { on := 8, ground := Ground.phase }, { on := 9, ground := Ground.phase }], guard := none }) (clo_grown _) rfl rfl rfl (by kernel_rfl) (by kernel_rfl) (by kernel_rfl) (by kernel_rfl) (by kernel_rfl) (fun _ _ _ h => by cases h.1) (YG.val (by rfl) (fun _ _ => by go_simp)) ?_
              simp only [Act.put, List.setIfInBounds_toArray, List.set_cons_zero, List.set_cons_succ]
              refine wpX_take 4 (v := .pointer (some ⟨ba, 0, none⟩)) (oi := { dst := some 107, op := Op.indexAddr 53 (Operand.tmp 105) (Operand.tmp 106), type := 0, pos := "law.go:122", after := #[{ on := 2, ground := Ground.data }, { on := 3, ground := Ground.data }], guard := none }) (oL := { dst := none, op := Op.store 3 (Operand.tmp 113) (Operand.tmp 112), type := 0, pos := "law.go:122", after := #[{ on := 10, ground := Ground.data }, { on := 9, ground := Ground.data }, { on := 0, ground := Ground.phase }, { on := 1, ground := Ground.phase }, { on := 2, ground := Ground.phase }, { on := 3, ground := Ground.phase }, { on := 4, ground := Ground.phase }, { on := 5, ground := Ground.phase }, { on := 6, ground := Ground.phase }, { on := 7, ground := Ground.phase }, { on := 8, ground := Ground.phase }, { on := 9, ground := Ground.phase }], guard := none }) (clo_grown _) rfl rfl rfl (by kernel_rfl) (by kernel_rfl) (by kernel_rfl) (by kernel_rfl) (by kernel_rfl) (fun _ _ _ h => by cases h.1) (YG.val (by rfl) (fun _ _ => by go_simp)) ?_
              simp only [Act.put, List.setIfInBounds_toArray, List.set_cons_zero, List.set_cons_succ]
              refine wpX_take 5 (v := .int .i64 x0) (oi := { dst := some 108, op := Op.load 3 (Operand.tmp 107), type := 3, pos := "law.go:122", after := #[{ on := 4, ground := Ground.data }], guard := none }) (oL := { dst := none, op := Op.store 3 (Operand.tmp 113) (Operand.tmp 112), type := 0, pos := "law.go:122", after := #[{ on := 10, ground := Ground.data }, { on := 9, ground := Ground.data }, { on := 0, ground := Ground.phase }, { on := 1, ground := Ground.phase }, { on := 2, ground := Ground.phase }, { on := 3, ground := Ground.phase }, { on := 4, ground := Ground.phase }, { on := 5, ground := Ground.phase }, { on := 6, ground := Ground.phase }, { on := 7, ground := Ground.phase }, { on := 8, ground := Ground.phase }, { on := 9, ground := Ground.phase }], guard := none }) (clo_grown _) rfl rfl rfl (by kernel_rfl) (by kernel_rfl) (by kernel_rfl) (by kernel_rfl) (by kernel_rfl) (fun _ _ _ h => by cases h.1) (YG.val (by rfl) (fun u hu => by have c := Row.cell (RA.out.grown hu) 0; simp at c; go_simp)) ?_
              simp only [Act.put, List.setIfInBounds_toArray, List.set_cons_zero, List.set_cons_succ]
              refine wpX_take 6 (v := .pointer (some ⟨bv, 3, none⟩)) (oi := { dst := some 109, op := Op.fieldAddr 55 (Operand.tmp 13) 3, type := 0, pos := "law.go:122", after := #[], guard := none }) (oL := { dst := none, op := Op.store 3 (Operand.tmp 113) (Operand.tmp 112), type := 0, pos := "law.go:122", after := #[{ on := 10, ground := Ground.data }, { on := 9, ground := Ground.data }, { on := 0, ground := Ground.phase }, { on := 1, ground := Ground.phase }, { on := 2, ground := Ground.phase }, { on := 3, ground := Ground.phase }, { on := 4, ground := Ground.phase }, { on := 5, ground := Ground.phase }, { on := 6, ground := Ground.phase }, { on := 7, ground := Ground.phase }, { on := 8, ground := Ground.phase }, { on := 9, ground := Ground.phase }], guard := none }) (clo_grown _) rfl rfl rfl (by kernel_rfl) (by kernel_rfl) (by kernel_rfl) (by kernel_rfl) (by kernel_rfl) (fun _ _ _ h => by cases h.1) (YG.val (by rfl) (fun _ _ => by go_simp)) ?_
              simp only [Act.put, List.setIfInBounds_toArray, List.set_cons_zero, List.set_cons_succ]
              refine wpX_take 7 (v := .slice sa sn sc) (oi := { dst := some 110, op := Op.load 34 (Operand.tmp 109), type := 34, pos := "law.go:122", after := #[{ on := 6, ground := Ground.data }], guard := none }) (oL := { dst := none, op := Op.store 3 (Operand.tmp 113) (Operand.tmp 112), type := 0, pos := "law.go:122", after := #[{ on := 10, ground := Ground.data }, { on := 9, ground := Ground.data }, { on := 0, ground := Ground.phase }, { on := 1, ground := Ground.phase }, { on := 2, ground := Ground.phase }, { on := 3, ground := Ground.phase }, { on := 4, ground := Ground.phase }, { on := 5, ground := Ground.phase }, { on := 6, ground := Ground.phase }, { on := 7, ground := Ground.phase }, { on := 8, ground := Ground.phase }, { on := 9, ground := Ground.phase }], guard := none }) (clo_grown _) rfl rfl rfl (by kernel_rfl) (by kernel_rfl) (by kernel_rfl) (by kernel_rfl) (by kernel_rfl) (fun _ _ _ h => by cases h.1) (YG.val (by rfl) (fun u hu => by have c := Row.cell (RV.out.grown hu) 3; simp at c; go_simp)) ?_
              simp only [Act.put, List.setIfInBounds_toArray, List.set_cons_zero, List.set_cons_succ]
              refine wpX_take 8 (v := .int .i64 (sn : Int)) (oi := { dst := some 111, op := Op.call { callee := Callee.builtin Builtin.len, args := #[Operand.tmp 110], argTypes := #[34] }, type := 3, pos := "law.go:122", after := #[{ on := 7, ground := Ground.data }], guard := none }) (oL := { dst := none, op := Op.store 3 (Operand.tmp 113) (Operand.tmp 112), type := 0, pos := "law.go:122", after := #[{ on := 10, ground := Ground.data }, { on := 9, ground := Ground.data }, { on := 0, ground := Ground.phase }, { on := 1, ground := Ground.phase }, { on := 2, ground := Ground.phase }, { on := 3, ground := Ground.phase }, { on := 4, ground := Ground.phase }, { on := 5, ground := Ground.phase }, { on := 6, ground := Ground.phase }, { on := 7, ground := Ground.phase }, { on := 8, ground := Ground.phase }, { on := 9, ground := Ground.phase }], guard := none }) (clo_grown _) rfl rfl rfl (by kernel_rfl) (by kernel_rfl) (by kernel_rfl) (by kernel_rfl) (by kernel_rfl) (fun _ _ _ h => by cases h.1) (YG.val (by rfl) (fun _ _ => by go_simp)) ?_
              simp only [Act.put, List.setIfInBounds_toArray, List.set_cons_zero, List.set_cons_succ]
              refine wpX_take 9 (v := .int .i64 (x0 + (sn : Int))) (oi := { dst := some 112, op := Op.binOp BinOp.add 3 (Operand.tmp 108) (Operand.tmp 111) 3, type := 3, pos := "law.go:122", after := #[{ on := 5, ground := Ground.data }, { on := 8, ground := Ground.data }], guard := none }) (oL := { dst := none, op := Op.store 3 (Operand.tmp 113) (Operand.tmp 112), type := 0, pos := "law.go:122", after := #[{ on := 10, ground := Ground.data }, { on := 9, ground := Ground.data }, { on := 0, ground := Ground.phase }, { on := 1, ground := Ground.phase }, { on := 2, ground := Ground.phase }, { on := 3, ground := Ground.phase }, { on := 4, ground := Ground.phase }, { on := 5, ground := Ground.phase }, { on := 6, ground := Ground.phase }, { on := 7, ground := Ground.phase }, { on := 8, ground := Ground.phase }, { on := 9, ground := Ground.phase }], guard := none }) (clo_grown _) rfl rfl rfl (by kernel_rfl) (by kernel_rfl) (by kernel_rfl) (by kernel_rfl) (by kernel_rfl) (fun _ _ _ h => by cases h.1) (YG.val (by rfl) (fun _ _ => by have hs := HWR.out; go_simp)) ?_
              simp only [Act.put, List.setIfInBounds_toArray, List.set_cons_zero, List.set_cons_succ]
              refine wpX_take 10 (v := .pointer (some ⟨ba, 0, none⟩)) (oi := { dst := some 113, op := Op.indexAddr 53 (Operand.tmp 103) (Operand.tmp 104), type := 0, pos := "law.go:122", after := #[{ on := 0, ground := Ground.data }, { on := 1, ground := Ground.data }, { on := 0, ground := Ground.phase }, { on := 1, ground := Ground.phase }, { on := 2, ground := Ground.phase }, { on := 3, ground := Ground.phase }, { on := 4, ground := Ground.phase }, { on := 5, ground := Ground.phase }, { on := 6, ground := Ground.phase }, { on := 7, ground := Ground.phase }, { on := 8, ground := Ground.phase }, { on := 9, ground := Ground.phase }], guard := none }) (oL := { dst := none, op := Op.store 3 (Operand.tmp 113) (Operand.tmp 112), type := 0, pos := "law.go:122", after := #[{ on := 10, ground := Ground.data }, { on := 9, ground := Ground.data }, { on := 0, ground := Ground.phase }, { on := 1, ground := Ground.phase }, { on := 2, ground := Ground.phase }, { on := 3, ground := Ground.phase }, { on := 4, ground := Ground.phase }, { on := 5, ground := Ground.phase }, { on := 6, ground := Ground.phase }, { on := 7, ground := Ground.phase }, { on := 8, ground := Ground.phase }, { on := 9, ground := Ground.phase }], guard := none }) (clo_grown _) rfl rfl rfl (by kernel_rfl) (by kernel_rfl) (by kernel_rfl) (by kernel_rfl) (by kernel_rfl) (fun _ _ _ h => by cases h.1) (YG.val (by rfl) (fun _ _ => by go_simp)) ?_
              simp only [Act.put, List.setIfInBounds_toArray, List.set_cons_zero, List.set_cons_succ]
              refine wpX_last (oL := { dst := none, op := Op.store 3 (Operand.tmp 113) (Operand.tmp 112), type := 0, pos := "law.go:122", after := #[{ on := 10, ground := Ground.data }, { on := 9, ground := Ground.data }, { on := 0, ground := Ground.phase }, { on := 1, ground := Ground.phase }, { on := 2, ground := Ground.phase }, { on := 3, ground := Ground.phase }, { on := 4, ground := Ground.phase }, { on := 5, ground := Ground.phase }, { on := 6, ground := Ground.phase }, { on := 7, ground := Ground.phase }, { on := 8, ground := Ground.phase }, { on := 9, ground := Ground.phase }], guard := none }) rfl (by kernel_rfl) (by kernel_rfl) (by rfl) (fun u4 hS4 K4 hK4 => ?_)
              have ra4 := RA.out.grown hS4
              have ca := Row.cell ra4 0
              have fa := Row.frozen ra4 0
              simp at ca
              refine wp_skip_op (w1 := u4.setCell ⟨ba, 0, none⟩ (.int .i64 (x0 + (sn : Int)))) (by go_simp) (hK4 _ _ ?_)
              simp only [Act.put]
              refine ⟨rfl, ?_⟩
              obtain ⟨v8, hv8⟩ : ∃ v8, v8 = u4.setCell ⟨ba, 0, none⟩ (.int .i64 (x0 + (sn : Int))) := ⟨_, rfl⟩
              rw [← hv8]
              have g8 : u4.grownBy v8 (some ba) := hv8 ▸ grownBy_setCell _ _ _ _
              have HRA := Lib.hid (show Row v8 ba 3 #[.int .i64 (x0 + (sn : Int)), .int .i64 x1] from hv8 ▸ Row.setc ra4 0 _)
              have ch : Ch (fun x => x = ba) v7 v8 := (Ch.ofNone hS4 _).trans (Ch.ofSome (S := fun x => x = ba) g8 rfl) (fun _ _ h => h)
              obtain ⟨o1, o2, o3, o4, o5, o6, o7⟩ := ORD.out
              have yv := YV.out
              have z02 := Z02.out
              have z05 := Z05.out
              have bz0 := BZ0.out
              replace C0 := Lib.hid (CipC.chC C0.out ch (by omega))
              replace C1 := Lib.hid (CipC.chC C1.out ch (by omega))
              replace RL := Lib.hid (Row.ch RL.out ch (by omega))
              replace RK := Lib.hid (Row.ch RK.out ch (by omega))
              replace RV := Lib.hid (Row.ch RV.out ch (by omega))
              replace LG := Lib.hid (LG.out.chB ch (fun x hx => by omega))
              replace LW := Lib.hid (LW.out.chB ch (fun x hx => by omega))
              replace GR := Lib.hid (Ch.fresh GR.out ch (fun x hx h => by omega))
              replace BZ := Lib.hid (Nat.le_trans BZ.out ch.size)
              replace RA := HRA
              replace OL1 := Lib.hid (show BOwn v8 _ _ _ _ _ from Own.ch OL1.out ch (fun h0 q e h => by
                obtain ⟨q', e', h1, _⟩ := Own.block OL1.out h0
                rw [e'] at e
                obtain rfl : q' = q := congrArg Addr.block (Option.some.inj e)
                omega))
              replace OW1 := Lib.hid (show BOwn v8 _ _ _ _ _ from Own.ch OW1.out ch (fun h0 q e h => by
                obtain ⟨q', e', h1, _⟩ := Own.block OW1.out h0
                rw [e'] at e
                obtain rfl : q' = q := congrArg Addr.block (Option.some.inj e)
                omega))
              clear hv8 g8 ch o1 o2 o3 o4 o5 o6 o7 yv z02 z05 bz0 ra4 ca fa hS4 hK4 HRA
              have HM2 := Lib.hid (show m + 1 ≤ 1048577 by omega)
              have HBX2 := Lib.hid (show (apL key x0 l).length ≤ 3000 by
                unfold apL
                have hll := HLL.out
                split
                · rw [xobL_len (by rw [kst_len])]; omega
                · simp)
              obtain ⟨AP, hAP⟩ : ∃ AP, AP = apL key x0 l := ⟨_, rfl⟩
              rw [← hAP] at OL1 OW1 HBX2
              clear hAP
              have HBV := Lib.hid (show base ≤ v8.heap.size from BZ.out)
              have HIN0 : Hid (∀ x, In ag cg x → base ≤ x ∧ x < wr.heap.size) := Lib.hid (fun x h => Own.inn LG0.out.outer h)
              have HINW : Hid (∀ x, In aw cw x → base ≤ x ∧ x < wr.heap.size) := Lib.hid (fun x h => Own.inn LW0.out.outer h)
              go_upto_region 26 with (at_builtin; refine wpList_push elS rfl (.tmp 114) (.tmp 116) rfl rfl LG.out.outer (.slice al ml cl) rfl rfl (by unfold maxLen; have := HM2.out; omega) (by have := HM2.out; omega) HBV.out ?_; intro gp cp wp hownp hgrp; have HO7 := Lib.hid hownp; have HGR7 := Lib.hid hgrp; clear hownp hgrp)
              obtain ⟨o1, o2, o3, o4, o5, o6, o7⟩ := ORD.out
              have yv := YV.out
              have z02 := Z02.out
              have z05 := Z05.out
              have bz0 := BZ0.out
              have ch := HGR7.out.ch
              have hin0 := HIN0.out
              have LGP := Lib.hid (LIs.pushC LG0.out BZ0.out LG.out (BOwn.mono OL1.out z02) HO7.out HGR7.out)
              have LWP := Lib.hid (LIs.grewOff LW.out LG.out.outer HGR7.out (fun x h1 h2 => DJ.out x h2 h1))
              have DJP : Hid (∀ x, In (some ⟨gp, 0, none⟩) cp x → In aw cw x → False) := Lib.hid (fun x h1 h2 => by
                rcases HGR7.out.inn h1 with h | h
                · exact DJ.out x h h2
                · have := HINW.out _ h2
                  have := HBV.out
                  have := RV.out.lt
                  have := YW.out
                  omega)
              have OWP := Lib.hid (show BOwn wp v5.heap.size aw' mw cw' AP from Own.ch OW1.out ch (fun h0 q e h => by
                obtain ⟨q', e', h1, _⟩ := Own.block OW1.out h0
                rw [e'] at e
                obtain rfl : q' = q := congrArg Addr.block (Option.some.inj e)
                have := hin0 _ h
                omega))
              replace C0 := Lib.hid (CipC.chC C0.out ch (fun h => by have := hin0 _ h; omega))
              replace C1 := Lib.hid (CipC.chC C1.out ch (fun h => by have := hin0 _ h; omega))
              replace RL := Lib.hid (Row.ch RL.out ch (fun h => by have := hin0 _ h; omega))
              replace RK := Lib.hid (Row.ch RK.out ch (fun h => by have := hin0 _ h; omega))
              replace RA := Lib.hid (Row.ch RA.out ch (fun h => by have := hin0 _ h; omega))
              replace RV := Lib.hid (Row.ch RV.out ch (fun h => by have := hin0 _ h; have := YW.out; omega))
              replace GR := Lib.hid (Ch.fresh GR.out ch (fun x hx h => by have := hin0 _ h; omega))
              have HBP := Lib.hid (show base ≤ wp.heap.size from Nat.le_trans HBV.out ch.size)
              clear o1 o2 o3 o4 o5 o6 o7 yv z02 z05 bz0 ch hin0
              go_wp2_with (at_builtin; refine wpList_push elS rfl (.tmp 118) (.tmp 120) rfl rfl LWP.out.outer (.slice aw' mw cw') rfl rfl (by unfold maxLen; have := HM2.out; omega) (by have := HM2.out; omega) HBP.out ?_; intro gq cq wq hownq hgrq; have HO8 := Lib.hid hownq; have HGR8 := Lib.hid hgrq; clear hownq hgrq)
              obtain ⟨o1, o2, o3, o4, o5, o6, o7⟩ := ORD.out
              have yv := YV.out
              have z05 := Z05.out
              have ch := HGR8.out.ch
              have hin0 := HINW.out
              have LWQ := Lib.hid (LIs.pushC LW0.out BZ0.out LWP.out (BOwn.mono OWP.out z05) HO8.out HGR8.out)
              have LGQ := Lib.hid (LIs.grewOff LGP.out LWP.out.outer HGR8.out DJP.out)
              have DJQ : Hid (∀ x, In (some ⟨gp, 0, none⟩) cp x → In (some ⟨gq, 0, none⟩) cq x → False) := Lib.hid (fun x h1 h2 => by
                rcases HGR8.out.inn h2 with h | h
                · exact DJP.out x h1 h
                · have := Own.inn LGP.out.outer h1
                  omega)
              replace C0 := Lib.hid (CipC.chC C0.out ch (fun h => by have := hin0 _ h; omega))
              replace C1 := Lib.hid (CipC.chC C1.out ch (fun h => by have := hin0 _ h; omega))
              replace RL := Lib.hid (Row.ch RL.out ch (fun h => by have := hin0 _ h; omega))
              replace RK := Lib.hid (Row.ch RK.out ch (fun h => by have := hin0 _ h; omega))
              replace RA := Lib.hid (Row.ch RA.out ch (fun h => by have := hin0 _ h; omega))
              replace GR := Lib.hid (Ch.fresh GR.out ch (fun x hx h => by have := hin0 _ h; omega))
              have HBQ := Lib.hid (show base ≤ wq.heap.size from Nat.le_trans HBP.out ch.size)
              clear o1 o2 o3 o4 o5 o6 o7 yv z05 ch hin0
              go_roundw
              case rel => exact ⟨i + 1, _, m + 1, _, _, _, _, _, bs ++ [AP], (x0 + (sn : Int)), x1, rfl, rfl, by go_num, by omega, C0.out, C1.out, RL.out, RK.out, RA.out, LGQ.out, LWQ.out, DJQ.out, by omega, fun x hx => by
                rcases List.mem_append.1 hx with h | h
                · exact BX.out x h
                · rw [List.mem_singleton] at h; rw [h]; exact HBX2.out, HBQ.out, GR.out⟩
              case measure => simp [intOf]; omega
            · have hed : (E == 0) = false := by rw [beq_eq_false_iff_ne]; exact he
              have hnx : nxP x0 sn = x0 := if_neg (fun h => he (HE.out.trans h))
              rw [hnx] at C0
              clear hnx
              have HM2 := Lib.hid (show m + 1 ≤ 1048577 by omega)
              have HBX2 := Lib.hid (show (apL key x0 l).length ≤ 3000 by
                unfold apL
                have hll := HLL.out
                split
                · rw [xobL_len (by rw [kst_len])]; omega
                · simp)
              obtain ⟨AP, hAP⟩ : ∃ AP, AP = apL key x0 l := ⟨_, rfl⟩
              rw [← hAP] at OL1 OW1 HBX2
              clear hAP
              have HBV := Lib.hid (show base ≤ v7.heap.size from BZ.out)
              have HIN0 : Hid (∀ x, In ag cg x → base ≤ x ∧ x < wr.heap.size) := Lib.hid (fun x h => Own.inn LG0.out.outer h)
              have HINW : Hid (∀ x, In aw cw x → base ≤ x ∧ x < wr.heap.size) := Lib.hid (fun x h => Own.inn LW0.out.outer h)
              go_upto_region 26 with (at_builtin; refine wpList_push elS rfl (.tmp 114) (.tmp 116) rfl rfl LG.out.outer (.slice al ml cl) rfl rfl (by unfold maxLen; have := HM2.out; omega) (by have := HM2.out; omega) HBV.out ?_; intro gp cp wp hownp hgrp; have HO7 := Lib.hid hownp; have HGR7 := Lib.hid hgrp; clear hownp hgrp)
              obtain ⟨o1, o2, o3, o4, o5, o6, o7⟩ := ORD.out
              have yv := YV.out
              have z02 := Z02.out
              have z05 := Z05.out
              have bz0 := BZ0.out
              have ch := HGR7.out.ch
              have hin0 := HIN0.out
              have LGP := Lib.hid (LIs.pushC LG0.out BZ0.out LG.out (BOwn.mono OL1.out z02) HO7.out HGR7.out)
              have LWP := Lib.hid (LIs.grewOff LW.out LG.out.outer HGR7.out (fun x h1 h2 => DJ.out x h2 h1))
              have DJP : Hid (∀ x, In (some ⟨gp, 0, none⟩) cp x → In aw cw x → False) := Lib.hid (fun x h1 h2 => by
                rcases HGR7.out.inn h1 with h | h
                · exact DJ.out x h h2
                · have := HINW.out _ h2
                  have := HBV.out
                  have := RV.out.lt
                  have := YW.out
                  omega)
              have OWP := Lib.hid (show BOwn wp v5.heap.size aw' mw cw' AP from Own.ch OW1.out ch (fun h0 q e h => by
                obtain ⟨q', e', h1, _⟩ := Own.block OW1.out h0
                rw [e'] at e
                obtain rfl : q' = q := congrArg Addr.block (Option.some.inj e)
                have := hin0 _ h
                omega))
              replace C0 := Lib.hid (CipC.chC C0.out ch (fun h => by have := hin0 _ h; omega))
              replace C1 := Lib.hid (CipC.chC C1.out ch (fun h => by have := hin0 _ h; omega))
              replace RL := Lib.hid (Row.ch RL.out ch (fun h => by have := hin0 _ h; omega))
              replace RK := Lib.hid (Row.ch RK.out ch (fun h => by have := hin0 _ h; omega))
              replace RA := Lib.hid (Row.ch RA.out ch (fun h => by have := hin0 _ h; omega))
              replace RV := Lib.hid (Row.ch RV.out ch (fun h => by have := hin0 _ h; have := YW.out; omega))
              replace GR := Lib.hid (Ch.fresh GR.out ch (fun x hx h => by have := hin0 _ h; omega))
              have HBP := Lib.hid (show base ≤ wp.heap.size from Nat.le_trans HBV.out ch.size)
              clear o1 o2 o3 o4 o5 o6 o7 yv z02 z05 bz0 ch hin0
              go_wp2_with (at_builtin; refine wpList_push elS rfl (.tmp 118) (.tmp 120) rfl rfl LWP.out.outer (.slice aw' mw cw') rfl rfl (by unfold maxLen; have := HM2.out; omega) (by have := HM2.out; omega) HBP.out ?_; intro gq cq wq hownq hgrq; have HO8 := Lib.hid hownq; have HGR8 := Lib.hid hgrq; clear hownq hgrq)
              obtain ⟨o1, o2, o3, o4, o5, o6, o7⟩ := ORD.out
              have yv := YV.out
              have z05 := Z05.out
              have ch := HGR8.out.ch
              have hin0 := HINW.out
              have LWQ := Lib.hid (LIs.pushC LW0.out BZ0.out LWP.out (BOwn.mono OWP.out z05) HO8.out HGR8.out)
              have LGQ := Lib.hid (LIs.grewOff LGP.out LWP.out.outer HGR8.out DJP.out)
              have DJQ : Hid (∀ x, In (some ⟨gp, 0, none⟩) cp x → In (some ⟨gq, 0, none⟩) cq x → False) := Lib.hid (fun x h1 h2 => by
                rcases HGR8.out.inn h2 with h | h
                · exact DJP.out x h1 h
                · have := Own.inn LGP.out.outer h1
                  omega)
              replace C0 := Lib.hid (CipC.chC C0.out ch (fun h => by have := hin0 _ h; omega))
              replace C1 := Lib.hid (CipC.chC C1.out ch (fun h => by have := hin0 _ h; omega))
              replace RL := Lib.hid (Row.ch RL.out ch (fun h => by have := hin0 _ h; omega))
              replace RK := Lib.hid (Row.ch RK.out ch (fun h => by have := hin0 _ h; omega))
              replace RA := Lib.hid (Row.ch RA.out ch (fun h => by have := hin0 _ h; omega))
              replace GR := Lib.hid (Ch.fresh GR.out ch (fun x hx h => by have := hin0 _ h; omega))
              have HBQ := Lib.hid (show base ≤ wq.heap.size from Nat.le_trans HBP.out ch.size)
              clear o1 o2 o3 o4 o5 o6 o7 yv z05 ch hin0
              go_roundw
              case rel => exact ⟨i + 1, _, m + 1, _, _, _, _, _, bs ++ [AP], x0, x1, rfl, rfl, by go_num, by omega, C0.out, C1.out, RL.out, RK.out, RA.out, LGQ.out, LWQ.out, DJQ.out, by omega, fun x hx => by
                rcases List.mem_append.1 hx with h | h
                · exact BX.out x h
                · rw [List.mem_singleton] at h; rw [h]; exact HBX2.out, HBQ.out, GR.out⟩
              case measure => simp [intOf]; omega
      · rw [e]
        clear e hpk
        by_cases hbig : 3000 < sn
        · have hd : decide ((3000 : Int) < (sn : Int)) = true := decide_eq_true (by omega)
          have hd2 : decide (3000 < sn) = true := decide_eq_true hbig
          go_wp2_with fail
          go_roundw
          case rel => exact ⟨i + 1, ag, m, cg, Lg, aw, cw, Lw, bs, x0, x1, rfl, rfl, by go_num, by omega, C0.out, C1.out, RL.out, RK.out, RA.out, LG.out, LW.out, DJ.out, by omega, BX.out, BZ.out, GR.out⟩
          case measure => simp [intOf]; omega
        · have hd : decide ((3000 : Int) < (sn : Int)) = false := decide_eq_false (by omega)
          have hd2 : decide (3000 < sn) = false := decide_eq_false hbig
          by_cases hy0 : y = 0
          · subst hy0
            by_cases hz : z < 0 ∨ 4611686018427387904 < z
            · have hE : skE z = 40 := if_pos hz
              have hP : skP x1 z = x1 := if_pos hz
              have HT := Lib.hid (seek_n other ho g1 x1 z v1 C1.out)
              rw [hE, hP] at HT
              clear hE hP
              rcases (show z < 0 ∨ (¬ z < 0 ∧ 4611686018427387904 < z) by omega) with hz1 | ⟨hz1, hz2⟩
              · have hzd : decide (z < 0) = true := decide_eq_true hz1
                go_wp2_with fail
                refine HT.out.mono ?_
                rintro e v2 ⟨rfl, hc, g⟩
                have ch : Ch (fun x => x = g1) _ v2 := Ch.ofSome g rfl
                obtain ⟨o1, o2, o3, o4, o5, o6, o7⟩ := ORD.out
                replace C1 := Lib.hid hc
                replace C0 := Lib.hid (CipC.chC C0.out ch (by omega))
                replace RL := Lib.hid (Row.ch RL.out ch (by omega))
                replace RK := Lib.hid (Row.ch RK.out ch (by omega))
                replace RA := Lib.hid (Row.ch RA.out ch (by omega))
                replace LG := Lib.hid (LG.out.chB ch (fun x hx => by omega))
                replace LW := Lib.hid (LW.out.chB ch (fun x hx => by omega))
                replace GR := Lib.hid (Ch.fresh GR.out ch (fun x hx h => by omega))
                replace BZ := Lib.hid (Nat.le_trans BZ.out ch.size)
                clear hc g ch o1 o2 o3 o4 o5 o6 o7 c0 c1 c2 c3 cl0 cl1
                go_wp2_with fail
                go_roundw
                case rel => exact ⟨i + 1, ag, m, cg, Lg, aw, cw, Lw, bs, x0, x1, rfl, rfl, by go_num, by omega, C0.out, C1.out, RL.out, RK.out, RA.out, LG.out, LW.out, DJ.out, by omega, BX.out, BZ.out, GR.out⟩
                case measure => simp [intOf]; omega
              · have hzd : decide (z < 0) = false := decide_eq_false hz1
                have hzd2 : decide (4611686018427387904 < z) = true := decide_eq_true hz2
                go_wp2_with fail
                refine HT.out.mono ?_
                rintro e v2 ⟨rfl, hc, g⟩
                have ch : Ch (fun x => x = g1) _ v2 := Ch.ofSome g rfl
                obtain ⟨o1, o2, o3, o4, o5, o6, o7⟩ := ORD.out
                replace C1 := Lib.hid hc
                replace C0 := Lib.hid (CipC.chC C0.out ch (by omega))
                replace RL := Lib.hid (Row.ch RL.out ch (by omega))
                replace RK := Lib.hid (Row.ch RK.out ch (by omega))
                replace RA := Lib.hid (Row.ch RA.out ch (by omega))
                replace LG := Lib.hid (LG.out.chB ch (fun x hx => by omega))
                replace LW := Lib.hid (LW.out.chB ch (fun x hx => by omega))
                replace GR := Lib.hid (Ch.fresh GR.out ch (fun x hx h => by omega))
                replace BZ := Lib.hid (Nat.le_trans BZ.out ch.size)
                clear hc g ch o1 o2 o3 o4 o5 o6 o7 c0 c1 c2 c3 cl0 cl1
                go_wp2_with fail
                go_roundw
                case rel => exact ⟨i + 1, ag, m, cg, Lg, aw, cw, Lw, bs, x0, x1, rfl, rfl, by go_num, by omega, C0.out, C1.out, RL.out, RK.out, RA.out, LG.out, LW.out, DJ.out, by omega, BX.out, BZ.out, GR.out⟩
                case measure => simp [intOf]; omega
            · have hzd : decide (z < 0) = false := decide_eq_false (by omega)
              have hzd2 : decide (4611686018427387904 < z) = false := decide_eq_false (by omega)
              have hE : skE z = 0 := if_neg hz
              have hP : skP x1 z = z := if_neg hz
              have ca := Row.cell RA.out 1
              have fa := Row.frozen RA.out 1
              simp at ca
              obtain ⟨vs, hvs⟩ : ∃ vs, vs = v1.setCell ⟨ba, 1, none⟩ (.int .i64 z) := ⟨_, rfl⟩
              have gs : v1.grownBy vs (some ba) := hvs ▸ grownBy_setCell _ _ _ _
              have rs : Row vs ba 3 #[.int .i64 x0, .int .i64 z] := hvs ▸ Row.setc RA.out 1 _
              have HVS := Lib.hid hvs
              have HRS := Lib.hid rs
              have HGS := Lib.hid gs
              clear hvs gs rs
              go_upto_region 32 with fail
              rw [← HVS.out]
              have ch : Ch (fun x => x = ba) v1 vs := Ch.ofSome HGS.out rfl
              obtain ⟨o1, o2, o3, o4, o5, o6, o7⟩ := ORD.out
              have yv := YV.out
              replace RA := HRS
              replace C0 := Lib.hid (CipC.chC C0.out ch (by omega))
              replace C1 := Lib.hid (CipC.chC C1.out ch (by omega))
              replace RL := Lib.hid (Row.ch RL.out ch (by omega))
              replace RK := Lib.hid (Row.ch RK.out ch (by omega))
              replace RV := Lib.hid (Row.ch RV.out ch (by omega))
              replace LG := Lib.hid (LG.out.chB ch (fun x hx => by omega))
              replace LW := Lib.hid (LW.out.chB ch (fun x hx => by omega))
              replace GR := Lib.hid (Ch.fresh GR.out ch (fun x hx h => by omega))
              replace BZ := Lib.hid (Nat.le_trans BZ.out ch.size)
              have c2' := Row.cell RV.out 2
              simp at c2'
              have HT := Lib.hid (seek_n other ho g1 x1 z vs C1.out)
              rw [hE, hP] at HT
              clear hE hP ch o1 o2 o3 o4 o5 o6 o7 yv ca fa HVS HRS HGS c0 c1 c2 c3 cl0 cl1
              go_wp2_with fail
              refine HT.out.mono ?_
              rintro e v2 ⟨rfl, hc, g⟩
              have ch : Ch (fun x => x = g1) _ v2 := Ch.ofSome g rfl
              obtain ⟨o1, o2, o3, o4, o5, o6, o7⟩ := ORD.out
              replace C1 := Lib.hid hc
              replace C0 := Lib.hid (CipC.chC C0.out ch (by omega))
              replace RL := Lib.hid (Row.ch RL.out ch (by omega))
              replace RK := Lib.hid (Row.ch RK.out ch (by omega))
              replace RA := Lib.hid (Row.ch RA.out ch (by omega))
              replace LG := Lib.hid (LG.out.chB ch (fun x hx => by omega))
              replace LW := Lib.hid (LW.out.chB ch (fun x hx => by omega))
              replace GR := Lib.hid (Ch.fresh GR.out ch (fun x hx h => by omega))
              replace BZ := Lib.hid (Nat.le_trans BZ.out ch.size)
              clear hc g ch o1 o2 o3 o4 o5 o6 o7 c2'
              go_wp2_with fail
              go_roundw
              case rel => exact ⟨i + 1, ag, m, cg, Lg, aw, cw, Lw, bs, x0, z, rfl, rfl, by go_num, by omega, C0.out, C1.out, RL.out, RK.out, RA.out, LG.out, LW.out, DJ.out, by omega, BX.out, BZ.out, GR.out⟩
              case measure => simp [intOf]; omega
          by_cases hy1 : y = 1
          · subst hy1
            go_upto_region 35 with fail
            refine wp_normal ?_
            refine wp_regionY (fun u => v1.grownBy u none) 6 (by kernel_rfl) (grownBy_drewN v1 1 none) ?_
            refine wpY_take 1 0 (v := .pointer (some ⟨g1, 0, none⟩)) (oi := { dst := some 145, op := Op.move (Operand.tmp 15), type := 49, pos := "law.go:107", after := #[], guard := none }) (oL := { dst := some 151, op := Op.binOp BinOp.neq 3 (Operand.tmp 146) (Operand.tmp 150) 3, type := 4, pos := "law.go:107", after := #[{ on := 1, ground := Ground.data }, { on := 5, ground := Ground.data }], guard := none }) (clo_grown _) rfl rfl rfl (by kernel_rfl) (by kernel_rfl) (by kernel_rfl) (by kernel_rfl) (by kernel_rfl) (fun _ _ _ h => by cases h.1) (YG.val (by rfl) (fun _ _ => by go_simp)) ?_
            simp only [Act.put, List.setIfInBounds_toArray, List.set_cons_zero, List.set_cons_succ]
            refine wpY_take 0 1 (v := .int .i64 x1) (oi := { dst := some 146, op := Op.call { callee := Callee.value (Operand.func 30), args := #[Operand.tmp 145], argTypes := #[49] }, type := 3, pos := "law.go:107", after := #[{ on := 0, ground := Ground.data }], guard := none }) (oL := { dst := some 151, op := Op.binOp BinOp.neq 3 (Operand.tmp 146) (Operand.tmp 150) 3, type := 4, pos := "law.go:107", after := #[{ on := 1, ground := Ground.data }, { on := 5, ground := Ground.data }], guard := none }) (clo_grown _) rfl rfl rfl (by kernel_rfl) (by kernel_rfl) (by kernel_rfl) (by kernel_rfl) (by kernel_rfl) (fun _ _ _ h => by cases h.1) (YG.call (by rfl) (fun _ => by go_simp) (fun u hu => (atc_n other ho g1 x1 u (C1.out.grown hu)).mono fun e w2 h => ⟨h.1, h.2 ▸ World.grownBy.refl _ _⟩)) ?_
            simp only [Act.put, List.setIfInBounds_toArray, List.set_cons_zero, List.set_cons_succ]
            refine wpY_take 2 2 (v := .slice (some ⟨ba, 0, none⟩) 2 2) (oi := { dst := some 147, op := Op.move (Operand.tmp 9), type := 53, pos := "law.go:107", after := #[], guard := none }) (oL := { dst := some 151, op := Op.binOp BinOp.neq 3 (Operand.tmp 146) (Operand.tmp 150) 3, type := 4, pos := "law.go:107", after := #[{ on := 1, ground := Ground.data }, { on := 5, ground := Ground.data }], guard := none }) (clo_grown _) rfl rfl rfl (by kernel_rfl) (by kernel_rfl) (by kernel_rfl) (by kernel_rfl) (by kernel_rfl) (fun _ _ _ h => by cases h.1) (YG.val (by rfl) (fun _ _ => by go_simp)) ?_
            simp only [Act.put, List.setIfInBounds_toArray, List.set_cons_zero, List.set_cons_succ]
            refine wpY_take 2 3 (v := .int .i64 1) (oi := { dst := some 148, op := Op.move (Operand.tmp 14), type := 3, pos := "law.go:107", after := #[], guard := none }) (oL := { dst := some 151, op := Op.binOp BinOp.neq 3 (Operand.tmp 146) (Operand.tmp 150) 3, type := 4, pos := "law.go:107", after := #[{ on := 1, ground := Ground.data }, { on := 5, ground := Ground.data }], guard := none }) (clo_grown _) rfl rfl rfl (by kernel_rfl) (by kernel_rfl) (by kernel_rfl) (by kernel_rfl) (by kernel_rfl) (fun _ _ _ h => by cases h.1) (YG.val (by rfl) (fun _ _ => by go_simp)) ?_
            simp only [Act.put, List.setIfInBounds_toArray, List.set_cons_zero, List.set_cons_succ]
            refine wpY_take 1 4 (v := .pointer (some ⟨ba, 1, none⟩)) (oi := { dst := some 149, op := Op.indexAddr 53 (Operand.tmp 147) (Operand.tmp 148), type := 0, pos := "law.go:107", after := #[{ on := 2, ground := Ground.data }, { on := 3, ground := Ground.data }], guard := none }) (oL := { dst := some 151, op := Op.binOp BinOp.neq 3 (Operand.tmp 146) (Operand.tmp 150) 3, type := 4, pos := "law.go:107", after := #[{ on := 1, ground := Ground.data }, { on := 5, ground := Ground.data }], guard := none }) (clo_grown _) rfl rfl rfl (by kernel_rfl) (by kernel_rfl) (by kernel_rfl) (by kernel_rfl) (by kernel_rfl) (fun _ _ _ h => by cases h.1) (YG.val (by rfl) (fun _ _ => by go_simp)) ?_
            simp only [Act.put, List.setIfInBounds_toArray, List.set_cons_zero, List.set_cons_succ]
            refine wpY_take 0 5 (v := .int .i64 x1) (oi := { dst := some 150, op := Op.load 3 (Operand.tmp 149), type := 3, pos := "law.go:107", after := #[{ on := 4, ground := Ground.data }], guard := none }) (oL := { dst := some 151, op := Op.binOp BinOp.neq 3 (Operand.tmp 146) (Operand.tmp 150) 3, type := 4, pos := "law.go:107", after := #[{ on := 1, ground := Ground.data }, { on := 5, ground := Ground.data }], guard := none }) (clo_grown _) rfl rfl rfl (by kernel_rfl) (by kernel_rfl) (by kernel_rfl) (by kernel_rfl) (by kernel_rfl) (fun _ _ _ h => by cases h.1) (YG.val (by rfl) (fun u hu => by have c := Row.cell (RA.out.grown hu) 1; simp at c; go_simp)) ?_
            simp only [Act.put, List.setIfInBounds_toArray, List.set_cons_zero, List.set_cons_succ]
            refine wpY_last (oL := { dst := some 151, op := Op.binOp BinOp.neq 3 (Operand.tmp 146) (Operand.tmp 150) 3, type := 4, pos := "law.go:107", after := #[{ on := 1, ground := Ground.data }, { on := 5, ground := Ground.data }], guard := none }) rfl (by kernel_rfl) (by rfl) (fun u hS K hK => ?_)
            refine wp_val_op (v := .bool false) (w1 := u) (by go_simp) (hK _ _ ?_)
            simp only [Act.put, List.setIfInBounds_toArray, List.set_cons_zero, List.set_cons_succ]
            refine wpAny_done (by kernel_rfl) ?_ _
            refine ⟨rfl, ?_⟩
            obtain ⟨v2, hv2⟩ : ∃ v2, v2 = u := ⟨_, rfl⟩
            rw [← hv2] at hS ⊢
            have g := hS
            replace C0 := Lib.hid (C0.out.grown g)
            replace C1 := Lib.hid (C1.out.grown g)
            replace RL := Lib.hid (RL.out.grown g)
            replace RK := Lib.hid (RK.out.grown g)
            replace RA := Lib.hid (RA.out.grown g)
            replace LG := Lib.hid (LG.out.grown g)
            replace LW := Lib.hid (LW.out.grown g)
            replace GR := Lib.hid (grownBy_trans GR.out g)
            replace BZ := Lib.hid (Nat.le_trans BZ.out g.size)
            clear hv2 hS hK g c0 c1 c2 c3 cl0 cl1
            go_wp2_with fail
            go_roundw
            case rel => exact ⟨i + 1, ag, m, cg, Lg, aw, cw, Lw, bs, x0, x1, rfl, rfl, by go_num, by omega, C0.out, C1.out, RL.out, RK.out, RA.out, LG.out, LW.out, DJ.out, by omega, BX.out, BZ.out, GR.out⟩
            case measure => simp [intOf]; omega
          · have hyd : decide (y = 0) = false := decide_eq_false hy0
            have hyd1 : decide (y = 1) = false := decide_eq_false hy1
            go_wp2_with fail
            refine (lent_n sa sc sn l v1 (HSL.out.grown GR.out) HLL.out (by omega)).mono ?_
            rintro e v2 ⟨gF, cF, rfl, oF, g⟩
            have hccF := oF.cap.1
            have YF : Hid (v1.heap.size ≤ gF ∧ gF < v2.heap.size) := Lib.hid (by obtain ⟨g', e, h1, h2⟩ := Own.block oF (by omega); injection e with e; injection e with e; subst e; exact ⟨h1, h2⟩)
            have OF := Lib.hid oF
            have Z2 := Lib.hid g.size
            replace C0 := Lib.hid (C0.out.grown g)
            replace C1 := Lib.hid (C1.out.grown g)
            replace RL := Lib.hid (RL.out.grown g)
            replace RK := Lib.hid (RK.out.grown g)
            replace RA := Lib.hid (RA.out.grown g)
            replace LG := Lib.hid (LG.out.grown g)
            replace LW := Lib.hid (LW.out.grown g)
            replace RV := Lib.hid (RV.out.grown g)
            replace GR := Lib.hid (grownBy_trans GR.out g)
            replace BZ := Lib.hid (Nat.le_trans BZ.out g.size)
            have Z02 := Lib.hid (show wr.heap.size ≤ v2.heap.size by have h1 := YW.out; have h2 := RV.out.lt; omega)
            clear oF g c0 c1 c2 c3 cl0 cl1
            have c3 := Row.cell RV.out 3
            simp at c3
            have HNX := Lib.hid (next_n other ho g1 x1 (some ⟨gF, 0, none⟩) sn cF l HLL.out (by omega) v2 C1.out (by have h := (BOwn.lies OF.out).take sn; rwa [lent_take _ _ HLL.out] at h))
            go_wp2_with (refine wpList_valp rfl (run_pre_op _ _ (.tmp 69) (.tmp 72) rfl gF (sn + 70) cF sn rfl rfl (by omega)) ?_)
            refine HNX.out.mono ?_
            rintro e v3 ⟨al, ml, cl, rfl, ol, hc, g⟩
            have ch : Ch (fun x => x = g1) v2 v3 := Ch.ofSome g rfl
            obtain ⟨o1, o2, o3, o4, o5, o6, o7⟩ := ORD.out
            have yv := YV.out
            have yf := YF.out
            have OL := Lib.hid ol
            replace OF := Lib.hid (show BOwn v3 v1.heap.size (some ⟨gF, 0, none⟩) (sn + 70) cF (lent l) from Own.ch OF.out ch (fun _ q e h => by injection e with e; injection e with e; omega))
            replace C1 := Lib.hid hc
            replace C0 := Lib.hid (CipC.chC C0.out ch (by omega))
            replace RL := Lib.hid (Row.ch RL.out ch (by omega))
            replace RK := Lib.hid (Row.ch RK.out ch (by omega))
            replace RA := Lib.hid (Row.ch RA.out ch (by omega))
            replace RV := Lib.hid (Row.ch RV.out ch (by omega))
            replace LG := Lib.hid (LG.out.chB ch (fun x hx => by omega))
            replace LW := Lib.hid (LW.out.chB ch (fun x hx => by omega))
            replace GR := Lib.hid (Ch.fresh GR.out ch (fun x hx h => by omega))
            replace BZ := Lib.hid (Nat.le_trans BZ.out ch.size)
            clear ol hc g ch o1 o2 o3 o4 o5 o6 o7 yv yf c3 HNX
            have c3 := Row.cell RV.out 3
            simp at c3
            go_wp2_with fail
            refine (kept_yes (some ⟨gF, 0, none⟩) sa cF sc sn (sn + 70) l v3 (BOwn.lies OF.out) (HSL.out.grown GR.out) HLL.out rfl (by omega)).mono ?_
            rintro e v4 ⟨rfl, g⟩
            replace C0 := Lib.hid (C0.out.grown g)
            replace C1 := Lib.hid (C1.out.grown g)
            replace RL := Lib.hid (RL.out.grown g)
            replace RK := Lib.hid (RK.out.grown g)
            replace RA := Lib.hid (RA.out.grown g)
            replace LG := Lib.hid (LG.out.grown g)
            replace LW := Lib.hid (LW.out.grown g)
            replace RV := Lib.hid (RV.out.grown g)
            replace OF := Lib.hid (OF.out.grown g)
            replace OL := Lib.hid (OL.out.grown g)
            replace GR := Lib.hid (grownBy_trans GR.out g)
            replace BZ := Lib.hid (Nat.le_trans BZ.out g.size)
            clear g c3
            go_wp2_with fail
            refine (over_n v1.heap.size gF cF (sn + 70) (lent l) v4 OF.out (by omega)).mono ?_
            rintro e v5 ⟨rfl, _, g⟩
            have ch : Ch (fun x => x = gF) v4 v5 := Ch.ofSome g rfl
            obtain ⟨o1, o2, o3, o4, o5, o6, o7⟩ := ORD.out
            have yv := YV.out
            have yf := YF.out
            have yw := YW.out
            have OL1 := Lib.hid (show BOwn v5 v2.heap.size al ml cl (apL other x1 l) from Own.ch OL.out ch (fun h0 q e h => by
              obtain ⟨q', e', h1, _⟩ := Own.block OL.out h0
              rw [e'] at e
              obtain rfl : q' = q := congrArg Addr.block (Option.some.inj e)
              omega))
            replace LG := Lib.hid (LG.out.chT ch (fun q h e => by have := (Own.inn LG0.out.outer h).2; omega) (fun j hj q h e => by have := (Own.inn (LG0.out.inner j hj (by have := LG0.out.len; omega)) h).2; omega))
            replace LW := Lib.hid (LW.out.chT ch (fun q h e => by have := (Own.inn LW0.out.outer h).2; omega) (fun j hj q h e => by have := (Own.inn (LW0.out.inner j hj (by have := LW0.out.len; omega)) h).2; omega))
            replace C0 := Lib.hid (CipC.chC C0.out ch (by omega))
            replace C1 := Lib.hid (CipC.chC C1.out ch (by omega))
            replace RL := Lib.hid (Row.ch RL.out ch (by omega))
            replace RK := Lib.hid (Row.ch RK.out ch (by omega))
            replace RA := Lib.hid (Row.ch RA.out ch (by omega))
            replace RV := Lib.hid (Row.ch RV.out ch (by omega))
            replace GR := Lib.hid (Ch.fresh GR.out ch (fun x hx h => by omega))
            replace BZ := Lib.hid (Nat.le_trans BZ.out ch.size)
            clear g ch o1 o2 o3 o4 o5 o6 o7 yv yf yw OF OL
            have Z05 := Lib.hid (show wr.heap.size ≤ v5.heap.size by have h1 := YW.out; have h2 := RV.out.lt; omega)
            go_upto_region 20 with fail
            refine wp_normal ?_
            refine wp_regionX (fun u => v5.grownBy u none) 15 (by kernel_rfl) (grownBy_drewN v5 1 none) ?_
            refine wpX_take 0 (v := .slice (some ⟨bk, 0, none⟩) 2 2) (oi := { dst := some 85, op := Op.move (Operand.tmp 8), type := 52, pos := "law.go:117", after := #[], guard := none }) (oL := { dst := some 21, op := Op.assign (Operand.tmp 97), type := 36, pos := "law.go:117", after := #[{ on := 13, ground := Ground.data }, { on := 14, ground := Ground.chain }, { on := 0, ground := Ground.phase }, { on := 1, ground := Ground.phase }, { on := 2, ground := Ground.phase }, { on := 3, ground := Ground.phase }, { on := 4, ground := Ground.phase }, { on := 5, ground := Ground.phase }, { on := 6, ground := Ground.phase }, { on := 7, ground := Ground.phase }, { on := 8, ground := Ground.phase }, { on := 9, ground := Ground.phase }, { on := 10, ground := Ground.phase }, { on := 11, ground := Ground.phase }, { on := 12, ground := Ground.phase }, { on := 13, ground := Ground.phase }, { on := 14, ground := Ground.phase }], guard := none }) (clo_grown _) rfl rfl rfl (by kernel_rfl) (by kernel_rfl) (by kernel_rfl) (by kernel_rfl) (by kernel_rfl) (fun _ _ _ h => by cases h.1) (YG.val (by rfl) (fun _ _ => by go_simp)) ?_
            simp only [Act.put, List.setIfInBounds_toArray, List.set_cons_zero, List.set_cons_succ]
            refine wpX_take 1 (v := .int .i64 1) (oi := { dst := some 86, op := Op.move (Operand.tmp 14), type := 3, pos := "law.go:117", after := #[], guard := none }) (oL := { dst := some 21, op := Op.assign (Operand.tmp 97), type := 36, pos := "law.go:117", after := #[{ on := 13, ground := Ground.data }, { on := 14, ground := Ground.chain }, { on := 0, ground := Ground.phase }, { on := 1, ground := Ground.phase }, { on := 2, ground := Ground.phase }, { on := 3, ground := Ground.phase }, { on := 4, ground := Ground.phase }, { on := 5, ground := Ground.phase }, { on := 6, ground := Ground.phase }, { on := 7, ground := Ground.phase }, { on := 8, ground := Ground.phase }, { on := 9, ground := Ground.phase }, { on := 10, ground := Ground.phase }, { on := 11, ground := Ground.phase }, { on := 12, ground := Ground.phase }, { on := 13, ground := Ground.phase }, { on := 14, ground := Ground.phase }], guard := none }) (clo_grown _) rfl rfl rfl (by kernel_rfl) (by kernel_rfl) (by kernel_rfl) (by kernel_rfl) (by kernel_rfl) (fun _ _ _ h => by cases h.1) (YG.val (by rfl) (fun _ _ => by go_simp)) ?_
            simp only [Act.put, List.setIfInBounds_toArray, List.set_cons_zero, List.set_cons_succ]
            refine wpX_take 2 (v := .pointer (some ⟨bk, 16, none⟩)) (oi := { dst := some 87, op := Op.indexAddr 52 (Operand.tmp 85) (Operand.tmp 86), type := 0, pos := "law.go:117", after := #[{ on := 0, ground := Ground.data }, { on := 1, ground := Ground.data }], guard := none }) (oL := { dst := some 21, op := Op.assign (Operand.tmp 97), type := 36, pos := "law.go:117", after := #[{ on := 13, ground := Ground.data }, { on := 14, ground := Ground.chain }, { on := 0, ground := Ground.phase }, { on := 1, ground := Ground.phase }, { on := 2, ground := Ground.phase }, { on := 3, ground := Ground.phase }, { on := 4, ground := Ground.phase }, { on := 5, ground := Ground.phase }, { on := 6, ground := Ground.phase }, { on := 7, ground := Ground.phase }, { on := 8, ground := Ground.phase }, { on := 9, ground := Ground.phase }, { on := 10, ground := Ground.phase }, { on := 11, ground := Ground.phase }, { on := 12, ground := Ground.phase }, { on := 13, ground := Ground.phase }, { on := 14, ground := Ground.phase }], guard := none }) (clo_grown _) rfl rfl rfl (by kernel_rfl) (by kernel_rfl) (by kernel_rfl) (by kernel_rfl) (by kernel_rfl) (fun _ _ _ h => by cases h.1) (YG.val (by rfl) (fun _ _ => by go_simp)) ?_
            simp only [Act.put, List.setIfInBounds_toArray, List.set_cons_zero, List.set_cons_succ]
            refine wpX_take 3 (v := .agg (cellsB other)) (oi := { dst := some 88, op := Op.load 27 (Operand.tmp 87), type := 27, pos := "law.go:117", after := #[{ on := 2, ground := Ground.data }], guard := none }) (oL := { dst := some 21, op := Op.assign (Operand.tmp 97), type := 36, pos := "law.go:117", after := #[{ on := 13, ground := Ground.data }, { on := 14, ground := Ground.chain }, { on := 0, ground := Ground.phase }, { on := 1, ground := Ground.phase }, { on := 2, ground := Ground.phase }, { on := 3, ground := Ground.phase }, { on := 4, ground := Ground.phase }, { on := 5, ground := Ground.phase }, { on := 6, ground := Ground.phase }, { on := 7, ground := Ground.phase }, { on := 8, ground := Ground.phase }, { on := 9, ground := Ground.phase }, { on := 10, ground := Ground.phase }, { on := 11, ground := Ground.phase }, { on := 12, ground := Ground.phase }, { on := 13, ground := Ground.phase }, { on := 14, ground := Ground.phase }], guard := none }) (clo_grown _) rfl rfl rfl (by kernel_rfl) (by kernel_rfl) (by kernel_rfl) (by kernel_rfl) (by kernel_rfl) (fun _ _ _ h => by cases h.1) (YG.row (by rfl) 27 (.tmp 87) rfl bk 16 rfl (other.map bval) _ (fun u hu => keys_range1 hk (RK.out.grown hu)) Try.underlying27 rfl (by rw [size_key, List.length_map, ho])) ?_
            simp only [Act.put, List.setIfInBounds_toArray, List.set_cons_zero, List.set_cons_succ]
            refine wpX_take 4 (v := .slice (some ⟨ba, 0, none⟩) 2 2) (oi := { dst := some 89, op := Op.move (Operand.tmp 9), type := 53, pos := "law.go:117", after := #[], guard := none }) (oL := { dst := some 21, op := Op.assign (Operand.tmp 97), type := 36, pos := "law.go:117", after := #[{ on := 13, ground := Ground.data }, { on := 14, ground := Ground.chain }, { on := 0, ground := Ground.phase }, { on := 1, ground := Ground.phase }, { on := 2, ground := Ground.phase }, { on := 3, ground := Ground.phase }, { on := 4, ground := Ground.phase }, { on := 5, ground := Ground.phase }, { on := 6, ground := Ground.phase }, { on := 7, ground := Ground.phase }, { on := 8, ground := Ground.phase }, { on := 9, ground := Ground.phase }, { on := 10, ground := Ground.phase }, { on := 11, ground := Ground.phase }, { on := 12, ground := Ground.phase }, { on := 13, ground := Ground.phase }, { on := 14, ground := Ground.phase }], guard := none }) (clo_grown _) rfl rfl rfl (by kernel_rfl) (by kernel_rfl) (by kernel_rfl) (by kernel_rfl) (by kernel_rfl) (fun _ _ _ h => by cases h.1) (YG.val (by rfl) (fun _ _ => by go_simp)) ?_
            simp only [Act.put, List.setIfInBounds_toArray, List.set_cons_zero, List.set_cons_succ]
            refine wpX_take 5 (v := .int .i64 1) (oi := { dst := some 90, op := Op.move (Operand.tmp 14), type := 3, pos := "law.go:117", after := #[], guard := none }) (oL := { dst := some 21, op := Op.assign (Operand.tmp 97), type := 36, pos := "law.go:117", after := #[{ on := 13, ground := Ground.data }, { on := 14, ground := Ground.chain }, { on := 0, ground := Ground.phase }, { on := 1, ground := Ground.phase }, { on := 2, ground := Ground.phase }, { on := 3, ground := Ground.phase }, { on := 4, ground := Ground.phase }, { on := 5, ground := Ground.phase }, { on := 6, ground := Ground.phase }, { on := 7, ground := Ground.phase }, { on := 8, ground := Ground.phase }, { on := 9, ground := Ground.phase }, { on := 10, ground := Ground.phase }, { on := 11, ground := Ground.phase }, { on := 12, ground := Ground.phase }, { on := 13, ground := Ground.phase }, { on := 14, ground := Ground.phase }], guard := none }) (clo_grown _) rfl rfl rfl (by kernel_rfl) (by kernel_rfl) (by kernel_rfl) (by kernel_rfl) (by kernel_rfl) (fun _ _ _ h => by cases h.1) (YG.val (by rfl) (fun _ _ => by go_simp)) ?_
            simp only [Act.put, List.setIfInBounds_toArray, List.set_cons_zero, List.set_cons_succ]
            refine wpX_take 6 (v := .pointer (some ⟨ba, 1, none⟩)) (oi := { dst := some 91, op := Op.indexAddr 53 (Operand.tmp 89) (Operand.tmp 90), type := 0, pos := "law.go:117", after := #[{ on := 4, ground := Ground.data }, { on := 5, ground := Ground.data }], guard := none }) (oL := { dst := some 21, op := Op.assign (Operand.tmp 97), type := 36, pos := "law.go:117", after := #[{ on := 13, ground := Ground.data }, { on := 14, ground := Ground.chain }, { on := 0, ground := Ground.phase }, { on := 1, ground := Ground.phase }, { on := 2, ground := Ground.phase }, { on := 3, ground := Ground.phase }, { on := 4, ground := Ground.phase }, { on := 5, ground := Ground.phase }, { on := 6, ground := Ground.phase }, { on := 7, ground := Ground.phase }, { on := 8, ground := Ground.phase }, { on := 9, ground := Ground.phase }, { on := 10, ground := Ground.phase }, { on := 11, ground := Ground.phase }, { on := 12, ground := Ground.phase }, { on := 13, ground := Ground.phase }, { on := 14, ground := Ground.phase }], guard := none }) (clo_grown _) rfl rfl rfl (by kernel_rfl) (by kernel_rfl) (by kernel_rfl) (by kernel_rfl) (by kernel_rfl) (fun _ _ _ h => by cases h.1) (YG.val (by rfl) (fun _ _ => by go_simp)) ?_
            simp only [Act.put, List.setIfInBounds_toArray, List.set_cons_zero, List.set_cons_succ]
            refine wpX_take 7 (v := .int .i64 x1) (oi := { dst := some 92, op := Op.load 3 (Operand.tmp 91), type := 3, pos := "law.go:117", after := #[{ on := 6, ground := Ground.data }], guard := none }) (oL := { dst := some 21, op := Op.assign (Operand.tmp 97), type := 36, pos := "law.go:117", after := #[{ on := 13, ground := Ground.data }, { on := 14, ground := Ground.chain }, { on := 0, ground := Ground.phase }, { on := 1, ground := Ground.phase }, { on := 2, ground := Ground.phase }, { on := 3, ground := Ground.phase }, { on := 4, ground := Ground.phase }, { on := 5, ground := Ground.phase }, { on := 6, ground := Ground.phase }, { on := 7, ground := Ground.phase }, { on := 8, ground := Ground.phase }, { on := 9, ground := Ground.phase }, { on := 10, ground := Ground.phase }, { on := 11, ground := Ground.phase }, { on := 12, ground := Ground.phase }, { on := 13, ground := Ground.phase }, { on := 14, ground := Ground.phase }], guard := none }) (clo_grown _) rfl rfl rfl (by kernel_rfl) (by kernel_rfl) (by kernel_rfl) (by kernel_rfl) (by kernel_rfl) (fun _ _ _ h => by cases h.1) (YG.val (by rfl) (fun u hu => by have c := Row.cell (RA.out.grown hu) 1; simp at c; go_simp)) ?_
            simp only [Act.put, List.setIfInBounds_toArray, List.set_cons_zero, List.set_cons_succ]
            refine wpX_take 8 (v := .pointer (some ⟨bv, 3, none⟩)) (oi := { dst := some 93, op := Op.fieldAddr 55 (Operand.tmp 13) 3, type := 0, pos := "law.go:117", after := #[], guard := none }) (oL := { dst := some 21, op := Op.assign (Operand.tmp 97), type := 36, pos := "law.go:117", after := #[{ on := 13, ground := Ground.data }, { on := 14, ground := Ground.chain }, { on := 0, ground := Ground.phase }, { on := 1, ground := Ground.phase }, { on := 2, ground := Ground.phase }, { on := 3, ground := Ground.phase }, { on := 4, ground := Ground.phase }, { on := 5, ground := Ground.phase }, { on := 6, ground := Ground.phase }, { on := 7, ground := Ground.phase }, { on := 8, ground := Ground.phase }, { on := 9, ground := Ground.phase }, { on := 10, ground := Ground.phase }, { on := 11, ground := Ground.phase }, { on := 12, ground := Ground.phase }, { on := 13, ground := Ground.phase }, { on := 14, ground := Ground.phase }], guard := none }) (clo_grown _) rfl rfl rfl (by kernel_rfl) (by kernel_rfl) (by kernel_rfl) (by kernel_rfl) (by kernel_rfl) (fun _ _ _ h => by cases h.1) (YG.val (by rfl) (fun _ _ => by go_simp)) ?_
            simp only [Act.put, List.setIfInBounds_toArray, List.set_cons_zero, List.set_cons_succ]
            refine wpX_take 9 (v := .slice sa sn sc) (oi := { dst := some 94, op := Op.load 34 (Operand.tmp 93), type := 34, pos := "law.go:117", after := #[{ on := 8, ground := Ground.data }], guard := none }) (oL := { dst := some 21, op := Op.assign (Operand.tmp 97), type := 36, pos := "law.go:117", after := #[{ on := 13, ground := Ground.data }, { on := 14, ground := Ground.chain }, { on := 0, ground := Ground.phase }, { on := 1, ground := Ground.phase }, { on := 2, ground := Ground.phase }, { on := 3, ground := Ground.phase }, { on := 4, ground := Ground.phase }, { on := 5, ground := Ground.phase }, { on := 6, ground := Ground.phase }, { on := 7, ground := Ground.phase }, { on := 8, ground := Ground.phase }, { on := 9, ground := Ground.phase }, { on := 10, ground := Ground.phase }, { on := 11, ground := Ground.phase }, { on := 12, ground := Ground.phase }, { on := 13, ground := Ground.phase }, { on := 14, ground := Ground.phase }], guard := none }) (clo_grown _) rfl rfl rfl (by kernel_rfl) (by kernel_rfl) (by kernel_rfl) (by kernel_rfl) (by kernel_rfl) (fun _ _ _ h => by cases h.1) (YG.val (by rfl) (fun u hu => by have c := Row.cell (RV.out.grown hu) 3; simp at c; go_simp)) ?_
            simp only [Act.put, List.setIfInBounds_toArray, List.set_cons_zero, List.set_cons_succ]
            refine wpX_step 10 (o := { dst := some 95, op := Op.call { callee := Callee.value (Operand.func 23), args := #[Operand.tmp 88, Operand.tmp 92, Operand.tmp 94], argTypes := #[27, 3, 34] }, type := 37, pos := "law.go:117", after := #[{ on := 3, ground := Ground.data }, { on := 7, ground := Ground.data }, { on := 9, ground := Ground.data }], guard := none }) rfl rfl (by kernel_rfl) (by rfl) (fun u2 hS2 K hK => ?_)
            have HK := Lib.hid hK
            have HS := Lib.hid hS2
            clear hK hS2
            refine wp_call_op (f := 23) (args := #[.agg (cellsB other), .int .i64 x1, .slice sa sn sc]) (w1 := u2) (by go_simp) ((refApply_n other ho x1 sa sn sc l HLL.out (by omega) u2 (HSL.out.grown (grownBy_trans GR.out HS.out))).mono ?_)
            rintro e v6 ⟨aw', mw, cw', rfl, ow, g⟩
            have OW := Lib.hid ow
            have G56 := Lib.hid (grownBy_trans HS.out g)
            have Z56 := Lib.hid HS.out.size
            refine ⟨_, rfl, HK.out (fun u => v6.grownBy u none) _ _ (World.grownBy.refl _ _) (fun u h => grownBy_trans G56.out h) (clo_grown v6) ?_⟩
            clear HK HS g ow
            obtain ⟨E, hE⟩ : ∃ E, E = stE x1 (sn : Int) := ⟨_, rfl⟩
            rw [← hE]
            have HE := Lib.hid hE
            clear hE
            simp only [Act.put, List.setIfInBounds_toArray, List.set_cons_zero, List.set_cons_succ]
            refine wpX_take 11 (v := .tuple #[.slice aw' mw cw', .int .i64 E]) (oi := { dst := some 84, op := Op.move (Operand.tmp 95), type := 37, pos := "law.go:117", after := #[{ on := 10, ground := Ground.data }], guard := none }) (oL := { dst := some 21, op := Op.assign (Operand.tmp 97), type := 36, pos := "law.go:117", after := #[{ on := 13, ground := Ground.data }, { on := 14, ground := Ground.chain }, { on := 0, ground := Ground.phase }, { on := 1, ground := Ground.phase }, { on := 2, ground := Ground.phase }, { on := 3, ground := Ground.phase }, { on := 4, ground := Ground.phase }, { on := 5, ground := Ground.phase }, { on := 6, ground := Ground.phase }, { on := 7, ground := Ground.phase }, { on := 8, ground := Ground.phase }, { on := 9, ground := Ground.phase }, { on := 10, ground := Ground.phase }, { on := 11, ground := Ground.phase }, { on := 12, ground := Ground.phase }, { on := 13, ground := Ground.phase }, { on := 14, ground := Ground.phase }], guard := none }) (clo_grown _) rfl rfl rfl (by kernel_rfl) (by kernel_rfl) (by kernel_rfl) (by kernel_rfl) (by kernel_rfl) (fun _ _ _ h => by cases h.1) (YG.val (by rfl) (fun _ _ => by go_simp)) ?_
            simp only [Act.put, List.setIfInBounds_toArray, List.set_cons_zero, List.set_cons_succ]
            refine wpX_take 12 (v := .slice aw' mw cw') (oi := { dst := some 96, op := Op.extract (Operand.tmp 84) 0, type := 34, pos := "law.go:117", after := #[{ on := 11, ground := Ground.data }], guard := none }) (oL := { dst := some 21, op := Op.assign (Operand.tmp 97), type := 36, pos := "law.go:117", after := #[{ on := 13, ground := Ground.data }, { on := 14, ground := Ground.chain }, { on := 0, ground := Ground.phase }, { on := 1, ground := Ground.phase }, { on := 2, ground := Ground.phase }, { on := 3, ground := Ground.phase }, { on := 4, ground := Ground.phase }, { on := 5, ground := Ground.phase }, { on := 6, ground := Ground.phase }, { on := 7, ground := Ground.phase }, { on := 8, ground := Ground.phase }, { on := 9, ground := Ground.phase }, { on := 10, ground := Ground.phase }, { on := 11, ground := Ground.phase }, { on := 12, ground := Ground.phase }, { on := 13, ground := Ground.phase }, { on := 14, ground := Ground.phase }], guard := none }) (clo_grown _) rfl rfl rfl (by kernel_rfl) (by kernel_rfl) (by kernel_rfl) (by kernel_rfl) (by kernel_rfl) (fun _ _ _ h => by cases h.1) (YG.val (by rfl) (fun _ _ => by go_simp)) ?_
            simp only [Act.put, List.setIfInBounds_toArray, List.set_cons_zero, List.set_cons_succ]
            refine wpX_take 13 (v := .int .i64 E) (oi := { dst := some 97, op := Op.extract (Operand.tmp 84) 1, type := 36, pos := "law.go:117", after := #[{ on := 11, ground := Ground.data }, { on := 14, ground := Ground.gcOnly Departure.lateStores }], guard := none }) (oL := { dst := some 21, op := Op.assign (Operand.tmp 97), type := 36, pos := "law.go:117", after := #[{ on := 13, ground := Ground.data }, { on := 14, ground := Ground.chain }, { on := 0, ground := Ground.phase }, { on := 1, ground := Ground.phase }, { on := 2, ground := Ground.phase }, { on := 3, ground := Ground.phase }, { on := 4, ground := Ground.phase }, { on := 5, ground := Ground.phase }, { on := 6, ground := Ground.phase }, { on := 7, ground := Ground.phase }, { on := 8, ground := Ground.phase }, { on := 9, ground := Ground.phase }, { on := 10, ground := Ground.phase }, { on := 11, ground := Ground.phase }, { on := 12, ground := Ground.phase }, { on := 13, ground := Ground.phase }, { on := 14, ground := Ground.phase }], guard := none }) (clo_grown _) rfl rfl rfl (by kernel_rfl) (by kernel_rfl) (by kernel_rfl) (by kernel_rfl) (by kernel_rfl) (fun _ _ _ h => by cases h.1) (YG.val (by rfl) (fun _ _ => by go_simp)) ?_
            simp only [Act.put, List.setIfInBounds_toArray, List.set_cons_zero, List.set_cons_succ]
            refine wpX_take 14 (v := .slice aw' mw cw') (oi := { dst := some 20, op := Op.assign (Operand.tmp 96), type := 34, pos := "law.go:117", after := #[{ on := 12, ground := Ground.data }, { on := 10, ground := Ground.chain }, { on := 0, ground := Ground.phase }, { on := 1, ground := Ground.phase }, { on := 2, ground := Ground.phase }, { on := 3, ground := Ground.phase }, { on := 4, ground := Ground.phase }, { on := 5, ground := Ground.phase }, { on := 6, ground := Ground.phase }, { on := 7, ground := Ground.phase }, { on := 8, ground := Ground.phase }, { on := 9, ground := Ground.phase }, { on := 10, ground := Ground.phase }, { on := 11, ground := Ground.phase }, { on := 12, ground := Ground.phase }, { on := 13, ground := Ground.textOnly Departure.lateStores }], guard := none }) (oL := { dst := some 21, op := Op.assign (Operand.tmp 97), type := 36, pos := "law.go:117", after := #[{ on := 13, ground := Ground.data }, { on := 14, ground := Ground.chain }, { on := 0, ground := Ground.phase }, { on := 1, ground := Ground.phase }, { on := 2, ground := Ground.phase }, { on := 3, ground := Ground.phase }, { on := 4, ground := Ground.phase }, { on := 5, ground := Ground.phase }, { on := 6, ground := Ground.phase }, { on := 7, ground := Ground.phase }, { on := 8, ground := Ground.phase }, { on := 9, ground := Ground.phase }, { on := 10, ground := Ground.phase }, { on := 11, ground := Ground.phase }, { on := 12, ground := Ground.phase }, { on := 13, ground := Ground.phase }, { on := 14, ground := Ground.phase }], guard := none }) (clo_grown _) rfl rfl rfl (by kernel_rfl) (by kernel_rfl) (by kernel_rfl) (by kernel_rfl) (by kernel_rfl) (fun _ _ _ h => by cases h.1) (YG.val (by rfl) (fun _ _ => by go_simp)) ?_
            simp only [Act.put, List.setIfInBounds_toArray, List.set_cons_zero, List.set_cons_succ]
            refine wpX_last (oL := { dst := some 21, op := Op.assign (Operand.tmp 97), type := 36, pos := "law.go:117", after := #[{ on := 13, ground := Ground.data }, { on := 14, ground := Ground.chain }, { on := 0, ground := Ground.phase }, { on := 1, ground := Ground.phase }, { on := 2, ground := Ground.phase }, { on := 3, ground := Ground.phase }, { on := 4, ground := Ground.phase }, { on := 5, ground := Ground.phase }, { on := 6, ground := Ground.phase }, { on := 7, ground := Ground.phase }, { on := 8, ground := Ground.phase }, { on := 9, ground := Ground.phase }, { on := 10, ground := Ground.phase }, { on := 11, ground := Ground.phase }, { on := 12, ground := Ground.phase }, { on := 13, ground := Ground.phase }, { on := 14, ground := Ground.phase }], guard := none }) rfl (by kernel_rfl) (by kernel_rfl) (by rfl) (fun u4 hS4 K4 hK4 => ?_)
            refine wp_val_op (v := .int .i64 E) (w1 := u4) (by go_simp) (hK4 _ _ ?_)
            simp only [Act.put, List.setIfInBounds_toArray, List.set_cons_zero, List.set_cons_succ]
            refine ⟨rfl, ?_⟩
            obtain ⟨v7, hv7⟩ : ∃ v7, v7 = u4 := ⟨_, rfl⟩
            rw [← hv7] at hS4 ⊢
            have g := grownBy_trans G56.out hS4
            have OW1 := Lib.hid (show BOwn v7 v5.heap.size aw' mw cw' (apL other x1 l) from BOwn.grown (BOwn.mono OW.out Z56.out) hS4)
            have Z57 := Lib.hid g.size
            have LW5 := LW
            replace C0 := Lib.hid (C0.out.grown g)
            replace C1 := Lib.hid (C1.out.grown g)
            replace RL := Lib.hid (RL.out.grown g)
            replace RK := Lib.hid (RK.out.grown g)
            replace RA := Lib.hid (RA.out.grown g)
            replace LG := Lib.hid (LG.out.grown g)
            replace LW := Lib.hid (LW.out.grown g)
            replace RV := Lib.hid (RV.out.grown g)
            replace OL1 := Lib.hid (OL1.out.grown g)
            replace GR := Lib.hid (grownBy_trans GR.out g)
            replace BZ := Lib.hid (Nat.le_trans BZ.out g.size)
            clear hv7 hS4 hK4 g OW G56 Z56
            by_cases he : E = 0
            · subst he
              have hsum := stE_le HE.out.symm
              have hnx : nxP x1 sn = x1 + sn := if_pos HE.out.symm
              rw [hnx] at C1
              have HWR := Lib.hid (show IntKind.i64.wrap (x1 + (sn : Int)) = x1 + (sn : Int) from IntWalk.i64_in _ (by omega))
              clear hnx hsum
              go_upto_region 24 with fail
              refine wp_normal ?_
              refine wp_regionX (fun u => v7.grownBy u none) 11 (by kernel_rfl) (grownBy_drewN v7 1 none) ?_
              refine wpX_take 0 (v := .slice (some ⟨ba, 0, none⟩) 2 2) (oi := { dst := some 103, op := Op.move (Operand.tmp 9), type := 53, pos := "law.go:122", after := #[], guard := none }) (oL := { dst := none, op := Op.store 3 (Operand.tmp 113) (Operand.tmp 112), type := 0, pos := "law.go:122", after := #[{ on := 10, ground := Ground.data }, { on := 9, ground := Ground.data }, { on := 0, ground := Ground.phase }, { on := 1, ground := Ground.phase }, { on := 2, ground := Ground.phase }, { on := 3, ground := Ground.phase }, { on := 4, ground := Ground.phase }, { on := 5, ground := Ground.phase }, { on := 6, ground := Ground.phase }, { on := 7, ground := Ground.phase }, { on := 8, ground := Ground.phase }, { on := 9, ground := Ground.phase }], guard := none }) (clo_grown _) rfl rfl rfl (by kernel_rfl) (by kernel_rfl) (by kernel_rfl) (by kernel_rfl) (by kernel_rfl) (fun _ _ _ h => by cases h.1) (YG.val (by rfl) (fun _ _ => by go_simp)) ?_
              simp only [Act.put, List.setIfInBounds_toArray, List.set_cons_zero, List.set_cons_succ]
              refine wpX_take 1 (v := .int .i64 1) (oi := { dst := some 104, op := Op.move (Operand.tmp 14), type := 3, pos := "law.go:122", after := #[], guard := none }) (oL := { dst := none, op := Op.store 3 (Operand.tmp 113) (Operand.tmp 112), type := 0, pos := "law.go:122", after := #[{ on := 10, ground := Ground.data }, { on := 9, ground := Ground.data }, { on := 0, ground := Ground.phase }, { on := 1, ground := Ground.phase }, { on := 2, ground := Ground.phase }, { on := 3, ground := Ground.phase }, { on := 4, ground := Ground.phase }, { on := 5, ground := Ground.phase }, { on := 6, ground := Ground.phase }, { on := 7, ground := Ground.phase }, { on := 8, ground := Ground.phase }, { on := 9, ground := Ground.phase }], guard := none }) (clo_grown _) rfl rfl rfl (by kernel_rfl) (by kernel_rfl) (by kernel_rfl) (by kernel_rfl) (by kernel_rfl) (fun _ _ _ h => by cases h.1) (YG.val (by rfl) (fun _ _ => by go_simp)) ?_
              simp only [Act.put, List.setIfInBounds_toArray, List.set_cons_zero, List.set_cons_succ]
              refine wpX_take 2 (v := .slice (some ⟨ba, 0, none⟩) 2 2) (oi := { dst := some 105, op := Op.move (Operand.tmp 9), type := 53, pos := "law.go:122", after := #[], guard := none }) (oL := { dst := none, op := Op.store 3 (Operand.tmp 113) (Operand.tmp 112), type := 0, pos := "law.go:122", after := #[{ on := 10, ground := Ground.data }, { on := 9, ground := Ground.data }, { on := 0, ground := Ground.phase }, { on := 1, ground := Ground.phase }, { on := 2, ground := Ground.phase }, { on := 3, ground := Ground.phase }, { on := 4, ground := Ground.phase }, { on := 5, ground := Ground.phase }, { on := 6, ground := Ground.phase }, { on := 7, ground := Ground.phase }, { on := 8, ground := Ground.phase }, { on := 9, ground := Ground.phase }], guard := none }) (clo_grown _) rfl rfl rfl (by kernel_rfl) (by kernel_rfl) (by kernel_rfl) (by kernel_rfl) (by kernel_rfl) (fun _ _ _ h => by cases h.1) (YG.val (by rfl) (fun _ _ => by go_simp)) ?_
              simp only [Act.put, List.setIfInBounds_toArray, List.set_cons_zero, List.set_cons_succ]
              refine wpX_take 3 (v := .int .i64 1) (oi := { dst := some 106, op := Op.move (Operand.tmp 14), type := 3, pos := "law.go:122", after := #[], guard := none }) (oL := { dst := none, op := Op.store 3 (Operand.tmp 113) (Operand.tmp 112), type := 0, pos := "law.go:122", after := #[{ on := 10, ground := Ground.data }, { on := 9, ground := Ground.data }, { on := 0, ground := Ground.phase }, { on := 1, ground := Ground.phase }, { on := 2, ground := Ground.phase }, { on := 3, ground := Ground.phase }, { on := 4, ground := Ground.phase }, { on := 5, ground := Ground.phase }, { on := 6, ground := Ground.phase }, { on := 7, ground := Ground.phase }, { on := 8, ground := Ground.phase }, { on := 9, ground := Ground.phase }], guard := none }) (clo_grown _) rfl rfl rfl (by kernel_rfl) (by kernel_rfl) (by kernel_rfl) (by kernel_rfl) (by kernel_rfl) (fun _ _ _ h => by cases h.1) (YG.val (by rfl) (fun _ _ => by go_simp)) ?_
              simp only [Act.put, List.setIfInBounds_toArray, List.set_cons_zero, List.set_cons_succ]
              refine wpX_take 4 (v := .pointer (some ⟨ba, 1, none⟩)) (oi := { dst := some 107, op := Op.indexAddr 53 (Operand.tmp 105) (Operand.tmp 106), type := 0, pos := "law.go:122", after := #[{ on := 2, ground := Ground.data }, { on := 3, ground := Ground.data }], guard := none }) (oL := { dst := none, op := Op.store 3 (Operand.tmp 113) (Operand.tmp 112), type := 0, pos := "law.go:122", after := #[{ on := 10, ground := Ground.data }, { on := 9, ground := Ground.data }, { on := 0, ground := Ground.phase }, { on := 1, ground := Ground.phase }, { on := 2, ground := Ground.phase }, { on := 3, ground := Ground.phase }, { on := 4, ground := Ground.phase }, { on := 5, ground := Ground.phase }, { on := 6, ground := Ground.phase }, { on := 7, ground := Ground.phase }, { on := 8, ground := Ground.phase }, { on := 9, ground := Ground.phase }], guard := none }) (clo_grown _) rfl rfl rfl (by kernel_rfl) (by kernel_rfl) (by kernel_rfl) (by kernel_rfl) (by kernel_rfl) (fun _ _ _ h => by cases h.1) (YG.val (by rfl) (fun _ _ => by go_simp)) ?_
              simp only [Act.put, List.setIfInBounds_toArray, List.set_cons_zero, List.set_cons_succ]
              refine wpX_take 5 (v := .int .i64 x1) (oi := { dst := some 108, op := Op.load 3 (Operand.tmp 107), type := 3, pos := "law.go:122", after := #[{ on := 4, ground := Ground.data }], guard := none }) (oL := { dst := none, op := Op.store 3 (Operand.tmp 113) (Operand.tmp 112), type := 0, pos := "law.go:122", after := #[{ on := 10, ground := Ground.data }, { on := 9, ground := Ground.data }, { on := 0, ground := Ground.phase }, { on := 1, ground := Ground.phase }, { on := 2, ground := Ground.phase }, { on := 3, ground := Ground.phase }, { on := 4, ground := Ground.phase }, { on := 5, ground := Ground.phase }, { on := 6, ground := Ground.phase }, { on := 7, ground := Ground.phase }, { on := 8, ground := Ground.phase }, { on := 9, ground := Ground.phase }], guard := none }) (clo_grown _) rfl rfl rfl (by kernel_rfl) (by kernel_rfl) (by kernel_rfl) (by kernel_rfl) (by kernel_rfl) (fun _ _ _ h => by cases h.1) (YG.val (by rfl) (fun u hu => by have c := Row.cell (RA.out.grown hu) 1; simp at c; go_simp)) ?_
              simp only [Act.put, List.setIfInBounds_toArray, List.set_cons_zero, List.set_cons_succ]
              refine wpX_take 6 (v := .pointer (some ⟨bv, 3, none⟩)) (oi := { dst := some 109, op := Op.fieldAddr 55 (Operand.tmp 13) 3, type := 0, pos := "law.go:122", after := #[], guard := none }) (oL := { dst := none, op := Op.store 3 (Operand.tmp 113) (Operand.tmp 112), type := 0, pos := "law.go:122", after := #[{ on := 10, ground := Ground.data }, { on := 9, ground := Ground.data }, { on := 0, ground := Ground.phase }, { on := 1, ground := Ground.phase }, { on := 2, ground := Ground.phase }, { on := 3, ground := Ground.phase }, { on := 4, ground := Ground.phase }, { on := 5, ground := Ground.phase }, { on := 6, ground := Ground.phase }, { on := 7, ground := Ground.phase }, { on := 8, ground := Ground.phase }, { on := 9, ground := Ground.phase }], guard := none }) (clo_grown _) rfl rfl rfl (by kernel_rfl) (by kernel_rfl) (by kernel_rfl) (by kernel_rfl) (by kernel_rfl) (fun _ _ _ h => by cases h.1) (YG.val (by rfl) (fun _ _ => by go_simp)) ?_
              simp only [Act.put, List.setIfInBounds_toArray, List.set_cons_zero, List.set_cons_succ]
              refine wpX_take 7 (v := .slice sa sn sc) (oi := { dst := some 110, op := Op.load 34 (Operand.tmp 109), type := 34, pos := "law.go:122", after := #[{ on := 6, ground := Ground.data }], guard := none }) (oL := { dst := none, op := Op.store 3 (Operand.tmp 113) (Operand.tmp 112), type := 0, pos := "law.go:122", after := #[{ on := 10, ground := Ground.data }, { on := 9, ground := Ground.data }, { on := 0, ground := Ground.phase }, { on := 1, ground := Ground.phase }, { on := 2, ground := Ground.phase }, { on := 3, ground := Ground.phase }, { on := 4, ground := Ground.phase }, { on := 5, ground := Ground.phase }, { on := 6, ground := Ground.phase }, { on := 7, ground := Ground.phase }, { on := 8, ground := Ground.phase }, { on := 9, ground := Ground.phase }], guard := none }) (clo_grown _) rfl rfl rfl (by kernel_rfl) (by kernel_rfl) (by kernel_rfl) (by kernel_rfl) (by kernel_rfl) (fun _ _ _ h => by cases h.1) (YG.val (by rfl) (fun u hu => by have c := Row.cell (RV.out.grown hu) 3; simp at c; go_simp)) ?_
              simp only [Act.put, List.setIfInBounds_toArray, List.set_cons_zero, List.set_cons_succ]
              refine wpX_take 8 (v := .int .i64 (sn : Int)) (oi := { dst := some 111, op := Op.call { callee := Callee.builtin Builtin.len, args := #[Operand.tmp 110], argTypes := #[34] }, type := 3, pos := "law.go:122", after := #[{ on := 7, ground := Ground.data }], guard := none }) (oL := { dst := none, op := Op.store 3 (Operand.tmp 113) (Operand.tmp 112), type := 0, pos := "law.go:122", after := #[{ on := 10, ground := Ground.data }, { on := 9, ground := Ground.data }, { on := 0, ground := Ground.phase }, { on := 1, ground := Ground.phase }, { on := 2, ground := Ground.phase }, { on := 3, ground := Ground.phase }, { on := 4, ground := Ground.phase }, { on := 5, ground := Ground.phase }, { on := 6, ground := Ground.phase }, { on := 7, ground := Ground.phase }, { on := 8, ground := Ground.phase }, { on := 9, ground := Ground.phase }], guard := none }) (clo_grown _) rfl rfl rfl (by kernel_rfl) (by kernel_rfl) (by kernel_rfl) (by kernel_rfl) (by kernel_rfl) (fun _ _ _ h => by cases h.1) (YG.val (by rfl) (fun _ _ => by go_simp)) ?_
              simp only [Act.put, List.setIfInBounds_toArray, List.set_cons_zero, List.set_cons_succ]
              refine wpX_take 9 (v := .int .i64 (x1 + (sn : Int))) (oi := { dst := some 112, op := Op.binOp BinOp.add 3 (Operand.tmp 108) (Operand.tmp 111) 3, type := 3, pos := "law.go:122", after := #[{ on := 5, ground := Ground.data }, { on := 8, ground := Ground.data }], guard := none }) (oL := { dst := none, op := Op.store 3 (Operand.tmp 113) (Operand.tmp 112), type := 0, pos := "law.go:122", after := #[{ on := 10, ground := Ground.data }, { on := 9, ground := Ground.data }, { on := 0, ground := Ground.phase }, { on := 1, ground := Ground.phase }, { on := 2, ground := Ground.phase }, { on := 3, ground := Ground.phase }, { on := 4, ground := Ground.phase }, { on := 5, ground := Ground.phase }, { on := 6, ground := Ground.phase }, { on := 7, ground := Ground.phase }, { on := 8, ground := Ground.phase }, { on := 9, ground := Ground.phase }], guard := none }) (clo_grown _) rfl rfl rfl (by kernel_rfl) (by kernel_rfl) (by kernel_rfl) (by kernel_rfl) (by kernel_rfl) (fun _ _ _ h => by cases h.1) (YG.val (by rfl) (fun _ _ => by have hs := HWR.out; go_simp)) ?_
              simp only [Act.put, List.setIfInBounds_toArray, List.set_cons_zero, List.set_cons_succ]
              refine wpX_take 10 (v := .pointer (some ⟨ba, 1, none⟩)) (oi := { dst := some 113, op := Op.indexAddr 53 (Operand.tmp 103) (Operand.tmp 104), type := 0, pos := "law.go:122", after := #[{ on := 0, ground := Ground.data }, { on := 1, ground := Ground.data }, { on := 0, ground := Ground.phase }, { on := 1, ground := Ground.phase }, { on := 2, ground := Ground.phase }, { on := 3, ground := Ground.phase }, { on := 4, ground := Ground.phase }, { on := 5, ground := Ground.phase }, { on := 6, ground := Ground.phase }, { on := 7, ground := Ground.phase }, { on := 8, ground := Ground.phase }, { on := 9, ground := Ground.phase }], guard := none }) (oL := { dst := none, op := Op.store 3 (Operand.tmp 113) (Operand.tmp 112), type := 0, pos := "law.go:122", after := #[{ on := 10, ground := Ground.data }, { on := 9, ground := Ground.data }, { on := 0, ground := Ground.phase }, { on := 1, ground := Ground.phase }, { on := 2, ground := Ground.phase }, { on := 3, ground := Ground.phase }, { on := 4, ground := Ground.phase }, { on := 5, ground := Ground.phase }, { on := 6, ground := Ground.phase }, { on := 7, ground := Ground.phase }, { on := 8, ground := Ground.phase }, { on := 9, ground := Ground.phase }], guard := none }) (clo_grown _) rfl rfl rfl (by kernel_rfl) (by kernel_rfl) (by kernel_rfl) (by kernel_rfl) (by kernel_rfl) (fun _ _ _ h => by cases h.1) (YG.val (by rfl) (fun _ _ => by go_simp)) ?_
              simp only [Act.put, List.setIfInBounds_toArray, List.set_cons_zero, List.set_cons_succ]
              refine wpX_last (oL := { dst := none, op := Op.store 3 (Operand.tmp 113) (Operand.tmp 112), type := 0, pos := "law.go:122", after := #[{ on := 10, ground := Ground.data }, { on := 9, ground := Ground.data }, { on := 0, ground := Ground.phase }, { on := 1, ground := Ground.phase }, { on := 2, ground := Ground.phase }, { on := 3, ground := Ground.phase }, { on := 4, ground := Ground.phase }, { on := 5, ground := Ground.phase }, { on := 6, ground := Ground.phase }, { on := 7, ground := Ground.phase }, { on := 8, ground := Ground.phase }, { on := 9, ground := Ground.phase }], guard := none }) rfl (by kernel_rfl) (by kernel_rfl) (by rfl) (fun u4 hS4 K4 hK4 => ?_)
              have ra4 := RA.out.grown hS4
              have ca := Row.cell ra4 1
              have fa := Row.frozen ra4 1
              simp at ca
              refine wp_skip_op (w1 := u4.setCell ⟨ba, 1, none⟩ (.int .i64 (x1 + (sn : Int)))) (by go_simp) (hK4 _ _ ?_)
              simp only [Act.put]
              refine ⟨rfl, ?_⟩
              obtain ⟨v8, hv8⟩ : ∃ v8, v8 = u4.setCell ⟨ba, 1, none⟩ (.int .i64 (x1 + (sn : Int))) := ⟨_, rfl⟩
              rw [← hv8]
              have g8 : u4.grownBy v8 (some ba) := hv8 ▸ grownBy_setCell _ _ _ _
              have HRA := Lib.hid (show Row v8 ba 3 #[.int .i64 x0, .int .i64 (x1 + (sn : Int))] from hv8 ▸ Row.setc ra4 1 _)
              have ch : Ch (fun x => x = ba) v7 v8 := (Ch.ofNone hS4 _).trans (Ch.ofSome (S := fun x => x = ba) g8 rfl) (fun _ _ h => h)
              obtain ⟨o1, o2, o3, o4, o5, o6, o7⟩ := ORD.out
              have yv := YV.out
              have z02 := Z02.out
              have z05 := Z05.out
              have bz0 := BZ0.out
              replace C0 := Lib.hid (CipC.chC C0.out ch (by omega))
              replace C1 := Lib.hid (CipC.chC C1.out ch (by omega))
              replace RL := Lib.hid (Row.ch RL.out ch (by omega))
              replace RK := Lib.hid (Row.ch RK.out ch (by omega))
              replace RV := Lib.hid (Row.ch RV.out ch (by omega))
              replace LG := Lib.hid (LG.out.chB ch (fun x hx => by omega))
              replace LW := Lib.hid (LW.out.chB ch (fun x hx => by omega))
              replace GR := Lib.hid (Ch.fresh GR.out ch (fun x hx h => by omega))
              replace BZ := Lib.hid (Nat.le_trans BZ.out ch.size)
              replace RA := HRA
              replace OL1 := Lib.hid (show BOwn v8 _ _ _ _ _ from Own.ch OL1.out ch (fun h0 q e h => by
                obtain ⟨q', e', h1, _⟩ := Own.block OL1.out h0
                rw [e'] at e
                obtain rfl : q' = q := congrArg Addr.block (Option.some.inj e)
                omega))
              replace OW1 := Lib.hid (show BOwn v8 _ _ _ _ _ from Own.ch OW1.out ch (fun h0 q e h => by
                obtain ⟨q', e', h1, _⟩ := Own.block OW1.out h0
                rw [e'] at e
                obtain rfl : q' = q := congrArg Addr.block (Option.some.inj e)
                omega))
              clear hv8 g8 ch o1 o2 o3 o4 o5 o6 o7 yv z02 z05 bz0 ra4 ca fa hS4 hK4 HRA
              have HM2 := Lib.hid (show m + 1 ≤ 1048577 by omega)
              have HBX2 := Lib.hid (show (apL other x1 l).length ≤ 3000 by
                unfold apL
                have hll := HLL.out
                split
                · rw [xobL_len (by rw [kst_len])]; omega
                · simp)
              obtain ⟨AP, hAP⟩ : ∃ AP, AP = apL other x1 l := ⟨_, rfl⟩
              rw [← hAP] at OL1 OW1 HBX2
              clear hAP
              have HBV := Lib.hid (show base ≤ v8.heap.size from BZ.out)
              have HIN0 : Hid (∀ x, In ag cg x → base ≤ x ∧ x < wr.heap.size) := Lib.hid (fun x h => Own.inn LG0.out.outer h)
              have HINW : Hid (∀ x, In aw cw x → base ≤ x ∧ x < wr.heap.size) := Lib.hid (fun x h => Own.inn LW0.out.outer h)
              go_upto_region 26 with (at_builtin; refine wpList_push elS rfl (.tmp 114) (.tmp 116) rfl rfl LG.out.outer (.slice al ml cl) rfl rfl (by unfold maxLen; have := HM2.out; omega) (by have := HM2.out; omega) HBV.out ?_; intro gp cp wp hownp hgrp; have HO7 := Lib.hid hownp; have HGR7 := Lib.hid hgrp; clear hownp hgrp)
              obtain ⟨o1, o2, o3, o4, o5, o6, o7⟩ := ORD.out
              have yv := YV.out
              have z02 := Z02.out
              have z05 := Z05.out
              have bz0 := BZ0.out
              have ch := HGR7.out.ch
              have hin0 := HIN0.out
              have LGP := Lib.hid (LIs.pushC LG0.out BZ0.out LG.out (BOwn.mono OL1.out z02) HO7.out HGR7.out)
              have LWP := Lib.hid (LIs.grewOff LW.out LG.out.outer HGR7.out (fun x h1 h2 => DJ.out x h2 h1))
              have DJP : Hid (∀ x, In (some ⟨gp, 0, none⟩) cp x → In aw cw x → False) := Lib.hid (fun x h1 h2 => by
                rcases HGR7.out.inn h1 with h | h
                · exact DJ.out x h h2
                · have := HINW.out _ h2
                  have := HBV.out
                  have := RV.out.lt
                  have := YW.out
                  omega)
              have OWP := Lib.hid (show BOwn wp v5.heap.size aw' mw cw' AP from Own.ch OW1.out ch (fun h0 q e h => by
                obtain ⟨q', e', h1, _⟩ := Own.block OW1.out h0
                rw [e'] at e
                obtain rfl : q' = q := congrArg Addr.block (Option.some.inj e)
                have := hin0 _ h
                omega))
              replace C0 := Lib.hid (CipC.chC C0.out ch (fun h => by have := hin0 _ h; omega))
              replace C1 := Lib.hid (CipC.chC C1.out ch (fun h => by have := hin0 _ h; omega))
              replace RL := Lib.hid (Row.ch RL.out ch (fun h => by have := hin0 _ h; omega))
              replace RK := Lib.hid (Row.ch RK.out ch (fun h => by have := hin0 _ h; omega))
              replace RA := Lib.hid (Row.ch RA.out ch (fun h => by have := hin0 _ h; omega))
              replace RV := Lib.hid (Row.ch RV.out ch (fun h => by have := hin0 _ h; have := YW.out; omega))
              replace GR := Lib.hid (Ch.fresh GR.out ch (fun x hx h => by have := hin0 _ h; omega))
              have HBP := Lib.hid (show base ≤ wp.heap.size from Nat.le_trans HBV.out ch.size)
              clear o1 o2 o3 o4 o5 o6 o7 yv z02 z05 bz0 ch hin0
              go_wp2_with (at_builtin; refine wpList_push elS rfl (.tmp 118) (.tmp 120) rfl rfl LWP.out.outer (.slice aw' mw cw') rfl rfl (by unfold maxLen; have := HM2.out; omega) (by have := HM2.out; omega) HBP.out ?_; intro gq cq wq hownq hgrq; have HO8 := Lib.hid hownq; have HGR8 := Lib.hid hgrq; clear hownq hgrq)
              obtain ⟨o1, o2, o3, o4, o5, o6, o7⟩ := ORD.out
              have yv := YV.out
              have z05 := Z05.out
              have ch := HGR8.out.ch
              have hin0 := HINW.out
              have LWQ := Lib.hid (LIs.pushC LW0.out BZ0.out LWP.out (BOwn.mono OWP.out z05) HO8.out HGR8.out)
              have LGQ := Lib.hid (LIs.grewOff LGP.out LWP.out.outer HGR8.out DJP.out)
              have DJQ : Hid (∀ x, In (some ⟨gp, 0, none⟩) cp x → In (some ⟨gq, 0, none⟩) cq x → False) := Lib.hid (fun x h1 h2 => by
                rcases HGR8.out.inn h2 with h | h
                · exact DJP.out x h1 h
                · have := Own.inn LGP.out.outer h1
                  omega)
              replace C0 := Lib.hid (CipC.chC C0.out ch (fun h => by have := hin0 _ h; omega))
              replace C1 := Lib.hid (CipC.chC C1.out ch (fun h => by have := hin0 _ h; omega))
              replace RL := Lib.hid (Row.ch RL.out ch (fun h => by have := hin0 _ h; omega))
              replace RK := Lib.hid (Row.ch RK.out ch (fun h => by have := hin0 _ h; omega))
              replace RA := Lib.hid (Row.ch RA.out ch (fun h => by have := hin0 _ h; omega))
              replace GR := Lib.hid (Ch.fresh GR.out ch (fun x hx h => by have := hin0 _ h; omega))
              have HBQ := Lib.hid (show base ≤ wq.heap.size from Nat.le_trans HBP.out ch.size)
              clear o1 o2 o3 o4 o5 o6 o7 yv z05 ch hin0
              go_roundw
              case rel => exact ⟨i + 1, _, m + 1, _, _, _, _, _, bs ++ [AP], x0, (x1 + (sn : Int)), rfl, rfl, by go_num, by omega, C0.out, C1.out, RL.out, RK.out, RA.out, LGQ.out, LWQ.out, DJQ.out, by omega, fun x hx => by
                rcases List.mem_append.1 hx with h | h
                · exact BX.out x h
                · rw [List.mem_singleton] at h; rw [h]; exact HBX2.out, HBQ.out, GR.out⟩
              case measure => simp [intOf]; omega
            · have hed : (E == 0) = false := by rw [beq_eq_false_iff_ne]; exact he
              have hnx : nxP x1 sn = x1 := if_neg (fun h => he (HE.out.trans h))
              rw [hnx] at C1
              clear hnx
              have HM2 := Lib.hid (show m + 1 ≤ 1048577 by omega)
              have HBX2 := Lib.hid (show (apL other x1 l).length ≤ 3000 by
                unfold apL
                have hll := HLL.out
                split
                · rw [xobL_len (by rw [kst_len])]; omega
                · simp)
              obtain ⟨AP, hAP⟩ : ∃ AP, AP = apL other x1 l := ⟨_, rfl⟩
              rw [← hAP] at OL1 OW1 HBX2
              clear hAP
              have HBV := Lib.hid (show base ≤ v7.heap.size from BZ.out)
              have HIN0 : Hid (∀ x, In ag cg x → base ≤ x ∧ x < wr.heap.size) := Lib.hid (fun x h => Own.inn LG0.out.outer h)
              have HINW : Hid (∀ x, In aw cw x → base ≤ x ∧ x < wr.heap.size) := Lib.hid (fun x h => Own.inn LW0.out.outer h)
              go_upto_region 26 with (at_builtin; refine wpList_push elS rfl (.tmp 114) (.tmp 116) rfl rfl LG.out.outer (.slice al ml cl) rfl rfl (by unfold maxLen; have := HM2.out; omega) (by have := HM2.out; omega) HBV.out ?_; intro gp cp wp hownp hgrp; have HO7 := Lib.hid hownp; have HGR7 := Lib.hid hgrp; clear hownp hgrp)
              obtain ⟨o1, o2, o3, o4, o5, o6, o7⟩ := ORD.out
              have yv := YV.out
              have z02 := Z02.out
              have z05 := Z05.out
              have bz0 := BZ0.out
              have ch := HGR7.out.ch
              have hin0 := HIN0.out
              have LGP := Lib.hid (LIs.pushC LG0.out BZ0.out LG.out (BOwn.mono OL1.out z02) HO7.out HGR7.out)
              have LWP := Lib.hid (LIs.grewOff LW.out LG.out.outer HGR7.out (fun x h1 h2 => DJ.out x h2 h1))
              have DJP : Hid (∀ x, In (some ⟨gp, 0, none⟩) cp x → In aw cw x → False) := Lib.hid (fun x h1 h2 => by
                rcases HGR7.out.inn h1 with h | h
                · exact DJ.out x h h2
                · have := HINW.out _ h2
                  have := HBV.out
                  have := RV.out.lt
                  have := YW.out
                  omega)
              have OWP := Lib.hid (show BOwn wp v5.heap.size aw' mw cw' AP from Own.ch OW1.out ch (fun h0 q e h => by
                obtain ⟨q', e', h1, _⟩ := Own.block OW1.out h0
                rw [e'] at e
                obtain rfl : q' = q := congrArg Addr.block (Option.some.inj e)
                have := hin0 _ h
                omega))
              replace C0 := Lib.hid (CipC.chC C0.out ch (fun h => by have := hin0 _ h; omega))
              replace C1 := Lib.hid (CipC.chC C1.out ch (fun h => by have := hin0 _ h; omega))
              replace RL := Lib.hid (Row.ch RL.out ch (fun h => by have := hin0 _ h; omega))
              replace RK := Lib.hid (Row.ch RK.out ch (fun h => by have := hin0 _ h; omega))
              replace RA := Lib.hid (Row.ch RA.out ch (fun h => by have := hin0 _ h; omega))
              replace RV := Lib.hid (Row.ch RV.out ch (fun h => by have := hin0 _ h; have := YW.out; omega))
              replace GR := Lib.hid (Ch.fresh GR.out ch (fun x hx h => by have := hin0 _ h; omega))
              have HBP := Lib.hid (show base ≤ wp.heap.size from Nat.le_trans HBV.out ch.size)
              clear o1 o2 o3 o4 o5 o6 o7 yv z02 z05 bz0 ch hin0
              go_wp2_with (at_builtin; refine wpList_push elS rfl (.tmp 118) (.tmp 120) rfl rfl LWP.out.outer (.slice aw' mw cw') rfl rfl (by unfold maxLen; have := HM2.out; omega) (by have := HM2.out; omega) HBP.out ?_; intro gq cq wq hownq hgrq; have HO8 := Lib.hid hownq; have HGR8 := Lib.hid hgrq; clear hownq hgrq)
              obtain ⟨o1, o2, o3, o4, o5, o6, o7⟩ := ORD.out
              have yv := YV.out
              have z05 := Z05.out
              have ch := HGR8.out.ch
              have hin0 := HINW.out
              have LWQ := Lib.hid (LIs.pushC LW0.out BZ0.out LWP.out (BOwn.mono OWP.out z05) HO8.out HGR8.out)
              have LGQ := Lib.hid (LIs.grewOff LGP.out LWP.out.outer HGR8.out DJP.out)
              have DJQ : Hid (∀ x, In (some ⟨gp, 0, none⟩) cp x → In (some ⟨gq, 0, none⟩) cq x → False) := Lib.hid (fun x h1 h2 => by
                rcases HGR8.out.inn h2 with h | h
                · exact DJP.out x h1 h
                · have := Own.inn LGP.out.outer h1
                  omega)
              replace C0 := Lib.hid (CipC.chC C0.out ch (fun h => by have := hin0 _ h; omega))
              replace C1 := Lib.hid (CipC.chC C1.out ch (fun h => by have := hin0 _ h; omega))
              replace RL := Lib.hid (Row.ch RL.out ch (fun h => by have := hin0 _ h; omega))
              replace RK := Lib.hid (Row.ch RK.out ch (fun h => by have := hin0 _ h; omega))
              replace RA := Lib.hid (Row.ch RA.out ch (fun h => by have := hin0 _ h; omega))
              replace GR := Lib.hid (Ch.fresh GR.out ch (fun x hx h => by have := hin0 _ h; omega))
              have HBQ := Lib.hid (show base ≤ wq.heap.size from Nat.le_trans HBP.out ch.size)
              clear o1 o2 o3 o4 o5 o6 o7 yv z05 ch hin0
              go_roundw
              case rel => exact ⟨i + 1, _, m + 1, _, _, _, _, _, bs ++ [AP], x0, x1, rfl, rfl, by go_num, by omega, C0.out, C1.out, RL.out, RK.out, RA.out, LGQ.out, LWQ.out, DJQ.out, by omega, fun x hx => by
                rcases List.mem_append.1 hx with h | h
                · exact BX.out x h
                · rw [List.mem_singleton] at h; rw [h]; exact HBX2.out, HBQ.out, GR.out⟩
              case measure => simp [intOf]; omega
    · obtain rfl : i = n2 := by omega
      clear hc0 hc1 hrl hrk hra hlg hlw hdj hbx hbz hgr
      go_upto_region 37 with fail
      refine wp_normal ?_
      have HM := Lib.hid (show bs.length = m by have h1 := LG.out.outer.len; have h2 := LG.out.len; omega)
      have HLM := Lib.hid (show Lg.length = m by have h1 := LG.out.outer.len; omega)
      refine wp_regionY (fun u => wr.grownBy u none) 25 (by kernel_rfl) (grownBy_drewN wr 1 none) ?_
      refine wpY_take 9 0 (v := .slice (some ⟨bl, 0, none⟩) 2 2) (oi := { dst := some 152, op := Op.move (Operand.tmp 7), type := 51, pos := "law.go:128", after := #[], guard := none }) (oL := { dst := some 177, op := Op.call { callee := Callee.value (Operand.func 25), args := #[Operand.tmp 176], argTypes := #[43] }, type := 4, pos := "law.go:128", after := #[{ on := 24, ground := Ground.data }, { on := 23, ground := Ground.chain }, { on := 23, ground := Ground.guard }], guard := some (23, true) }) (clo_grown _) rfl rfl rfl (by kernel_rfl) (by kernel_rfl) (by kernel_rfl) (by kernel_rfl) (by kernel_rfl) (fun _ _ _ h => by cases h.1) (YG.val (by rfl) (fun _ _ => by go_simp)) ?_
      simp only [Act.put, List.setIfInBounds_toArray, List.set_cons_zero, List.set_cons_succ]
      refine wpY_take 8 1 (v := .pointer (some ⟨bl, 0, none⟩)) (oi := { dst := some 153, op := Op.indexAddr 51 (Operand.tmp 152) (Operand.const (Value.int IntKind.i64 0)), type := 0, pos := "law.go:128", after := #[{ on := 0, ground := Ground.data }], guard := none }) (oL := { dst := some 177, op := Op.call { callee := Callee.value (Operand.func 25), args := #[Operand.tmp 176], argTypes := #[43] }, type := 4, pos := "law.go:128", after := #[{ on := 24, ground := Ground.data }, { on := 23, ground := Ground.chain }, { on := 23, ground := Ground.guard }], guard := some (23, true) }) (clo_grown _) rfl rfl rfl (by kernel_rfl) (by kernel_rfl) (by kernel_rfl) (by kernel_rfl) (by kernel_rfl) (fun _ _ _ h => by cases h.1) (YG.val (by rfl) (fun _ _ => by go_simp)) ?_
      simp only [Act.put, List.setIfInBounds_toArray, List.set_cons_zero, List.set_cons_succ]
      refine wpY_take 7 2 (v := .pointer (some ⟨g0, 0, none⟩)) (oi := { dst := some 154, op := Op.load 49 (Operand.tmp 153), type := 49, pos := "law.go:128", after := #[{ on := 1, ground := Ground.data }], guard := none }) (oL := { dst := some 177, op := Op.call { callee := Callee.value (Operand.func 25), args := #[Operand.tmp 176], argTypes := #[43] }, type := 4, pos := "law.go:128", after := #[{ on := 24, ground := Ground.data }, { on := 23, ground := Ground.chain }, { on := 23, ground := Ground.guard }], guard := some (23, true) }) (clo_grown _) rfl rfl rfl (by kernel_rfl) (by kernel_rfl) (by kernel_rfl) (by kernel_rfl) (by kernel_rfl) (fun _ _ _ h => by cases h.1) (YG.val (by rfl) (fun u hu => by have c := Row.cell (RL.out.grown hu) 0; simp at c; go_simp)) ?_
      simp only [Act.put, List.setIfInBounds_toArray, List.set_cons_zero, List.set_cons_succ]
      refine wpY_take 6 3 (v := .int .i64 x0) (oi := { dst := some 155, op := Op.call { callee := Callee.value (Operand.func 30), args := #[Operand.tmp 154], argTypes := #[49] }, type := 3, pos := "law.go:128", after := #[{ on := 2, ground := Ground.data }], guard := none }) (oL := { dst := some 177, op := Op.call { callee := Callee.value (Operand.func 25), args := #[Operand.tmp 176], argTypes := #[43] }, type := 4, pos := "law.go:128", after := #[{ on := 24, ground := Ground.data }, { on := 23, ground := Ground.chain }, { on := 23, ground := Ground.guard }], guard := some (23, true) }) (clo_grown _) rfl rfl rfl (by kernel_rfl) (by kernel_rfl) (by kernel_rfl) (by kernel_rfl) (by kernel_rfl) (fun _ _ _ h => by cases h.1) (YG.call (by rfl) (fun _ => by go_simp) (fun u hu => (atc_n key hk g0 x0 u (C0.out.grown hu)).mono fun e w2 h => ⟨h.1, h.2 ▸ World.grownBy.refl _ _⟩)) ?_
      simp only [Act.put, List.setIfInBounds_toArray, List.set_cons_zero, List.set_cons_succ]
      refine wpY_take 8 4 (v := .slice (some ⟨ba, 0, none⟩) 2 2) (oi := { dst := some 156, op := Op.move (Operand.tmp 9), type := 53, pos := "law.go:128", after := #[], guard := none }) (oL := { dst := some 177, op := Op.call { callee := Callee.value (Operand.func 25), args := #[Operand.tmp 176], argTypes := #[43] }, type := 4, pos := "law.go:128", after := #[{ on := 24, ground := Ground.data }, { on := 23, ground := Ground.chain }, { on := 23, ground := Ground.guard }], guard := some (23, true) }) (clo_grown _) rfl rfl rfl (by kernel_rfl) (by kernel_rfl) (by kernel_rfl) (by kernel_rfl) (by kernel_rfl) (fun _ _ _ h => by cases h.1) (YG.val (by rfl) (fun _ _ => by go_simp)) ?_
      simp only [Act.put, List.setIfInBounds_toArray, List.set_cons_zero, List.set_cons_succ]
      refine wpY_take 7 5 (v := .pointer (some ⟨ba, 0, none⟩)) (oi := { dst := some 157, op := Op.indexAddr 53 (Operand.tmp 156) (Operand.const (Value.int IntKind.i64 0)), type := 0, pos := "law.go:128", after := #[{ on := 4, ground := Ground.data }], guard := none }) (oL := { dst := some 177, op := Op.call { callee := Callee.value (Operand.func 25), args := #[Operand.tmp 176], argTypes := #[43] }, type := 4, pos := "law.go:128", after := #[{ on := 24, ground := Ground.data }, { on := 23, ground := Ground.chain }, { on := 23, ground := Ground.guard }], guard := some (23, true) }) (clo_grown _) rfl rfl rfl (by kernel_rfl) (by kernel_rfl) (by kernel_rfl) (by kernel_rfl) (by kernel_rfl) (fun _ _ _ h => by cases h.1) (YG.val (by rfl) (fun _ _ => by go_simp)) ?_
      simp only [Act.put, List.setIfInBounds_toArray, List.set_cons_zero, List.set_cons_succ]
      refine wpY_take 6 6 (v := .int .i64 x0) (oi := { dst := some 158, op := Op.load 3 (Operand.tmp 157), type := 3, pos := "law.go:128", after := #[{ on := 5, ground := Ground.data }], guard := none }) (oL := { dst := some 177, op := Op.call { callee := Callee.value (Operand.func 25), args := #[Operand.tmp 176], argTypes := #[43] }, type := 4, pos := "law.go:128", after := #[{ on := 24, ground := Ground.data }, { on := 23, ground := Ground.chain }, { on := 23, ground := Ground.guard }], guard := some (23, true) }) (clo_grown _) rfl rfl rfl (by kernel_rfl) (by kernel_rfl) (by kernel_rfl) (by kernel_rfl) (by kernel_rfl) (fun _ _ _ h => by cases h.1) (YG.val (by rfl) (fun u hu => by have c := Row.cell (RA.out.grown hu) 0; simp at c; go_simp)) ?_
      simp only [Act.put, List.setIfInBounds_toArray, List.set_cons_zero, List.set_cons_succ]
      refine wpY_take 5 7 (v := .bool true) (oi := { dst := some 159, op := Op.binOp BinOp.eql 3 (Operand.tmp 155) (Operand.tmp 158) 3, type := 4, pos := "law.go:128", after := #[{ on := 3, ground := Ground.data }, { on := 6, ground := Ground.data }], guard := none }) (oL := { dst := some 177, op := Op.call { callee := Callee.value (Operand.func 25), args := #[Operand.tmp 176], argTypes := #[43] }, type := 4, pos := "law.go:128", after := #[{ on := 24, ground := Ground.data }, { on := 23, ground := Ground.chain }, { on := 23, ground := Ground.guard }], guard := some (23, true) }) (clo_grown _) rfl rfl rfl (by kernel_rfl) (by kernel_rfl) (by kernel_rfl) (by kernel_rfl) (by kernel_rfl) (fun _ _ _ h => by cases h.1) (YG.val (by rfl) (fun _ _ => by go_simp)) ?_
      simp only [Act.put, List.setIfInBounds_toArray, List.set_cons_zero, List.set_cons_succ]
      refine wpY_take 4 8 (v := .bool true) (oi := { dst := some 160, op := Op.move (Operand.tmp 159), type := 4, pos := "law.go:128", after := #[{ on := 7, ground := Ground.data }, { on := 3, ground := Ground.chain }], guard := none }) (oL := { dst := some 177, op := Op.call { callee := Callee.value (Operand.func 25), args := #[Operand.tmp 176], argTypes := #[43] }, type := 4, pos := "law.go:128", after := #[{ on := 24, ground := Ground.data }, { on := 23, ground := Ground.chain }, { on := 23, ground := Ground.guard }], guard := some (23, true) }) (clo_grown _) rfl rfl rfl (by kernel_rfl) (by kernel_rfl) (by kernel_rfl) (by kernel_rfl) (by kernel_rfl) (fun _ _ _ h => by cases h.1) (YG.val (by rfl) (fun _ _ => by go_simp)) ?_
      simp only [Act.put, List.setIfInBounds_toArray, List.set_cons_zero, List.set_cons_succ]
      refine wpY_take 6 9 (v := .slice (some ⟨bl, 0, none⟩) 2 2) (oi := { dst := some 161, op := Op.move (Operand.tmp 7), type := 51, pos := "law.go:128", after := #[{ on := 8, ground := Ground.guard }], guard := some (8, true) }) (oL := { dst := some 177, op := Op.call { callee := Callee.value (Operand.func 25), args := #[Operand.tmp 176], argTypes := #[43] }, type := 4, pos := "law.go:128", after := #[{ on := 24, ground := Ground.data }, { on := 23, ground := Ground.chain }, { on := 23, ground := Ground.guard }], guard := some (23, true) }) (clo_grown _) rfl rfl rfl (by kernel_rfl) (by kernel_rfl) (by kernel_rfl) (by kernel_rfl) (by kernel_rfl) (fun _ _ _ h => by cases h.1) (YG.val (by rfl) (fun _ _ => by go_simp)) ?_
      simp only [Act.put, List.setIfInBounds_toArray, List.set_cons_zero, List.set_cons_succ]
      refine wpY_take 5 10 (v := .pointer (some ⟨bl, 1, none⟩)) (oi := { dst := some 162, op := Op.indexAddr 51 (Operand.tmp 161) (Operand.const (Value.int IntKind.i64 1)), type := 0, pos := "law.go:128", after := #[{ on := 9, ground := Ground.data }, { on := 8, ground := Ground.guard }], guard := some (8, true) }) (oL := { dst := some 177, op := Op.call { callee := Callee.value (Operand.func 25), args := #[Operand.tmp 176], argTypes := #[43] }, type := 4, pos := "law.go:128", after := #[{ on := 24, ground := Ground.data }, { on := 23, ground := Ground.chain }, { on := 23, ground := Ground.guard }], guard := some (23, true) }) (clo_grown _) rfl rfl rfl (by kernel_rfl) (by kernel_rfl) (by kernel_rfl) (by kernel_rfl) (by kernel_rfl) (fun _ _ _ h => by cases h.1) (YG.val (by rfl) (fun _ _ => by go_simp)) ?_
      simp only [Act.put, List.setIfInBounds_toArray, List.set_cons_zero, List.set_cons_succ]
      refine wpY_take 4 11 (v := .pointer (some ⟨g1, 0, none⟩)) (oi := { dst := some 163, op := Op.load 49 (Operand.tmp 162), type := 49, pos := "law.go:128", after := #[{ on := 10, ground := Ground.data }, { on := 8, ground := Ground.guard }], guard := some (8, true) }) (oL := { dst := some 177, op := Op.call { callee := Callee.value (Operand.func 25), args := #[Operand.tmp 176], argTypes := #[43] }, type := 4, pos := "law.go:128", after := #[{ on := 24, ground := Ground.data }, { on := 23, ground := Ground.chain }, { on := 23, ground := Ground.guard }], guard := some (23, true) }) (clo_grown _) rfl rfl rfl (by kernel_rfl) (by kernel_rfl) (by kernel_rfl) (by kernel_rfl) (by kernel_rfl) (fun _ _ _ h => by cases h.1) (YG.val (by rfl) (fun u hu => by have c := Row.cell (RL.out.grown hu) 1; simp at c; go_simp)) ?_
      simp only [Act.put, List.setIfInBounds_toArray, List.set_cons_zero, List.set_cons_succ]
      refine wpY_take 3 12 (v := .int .i64 x1) (oi := { dst := some 164, op := Op.call { callee := Callee.value (Operand.func 30), args := #[Operand.tmp 163], argTypes := #[49] }, type := 3, pos := "law.go:128", after := #[{ on := 11, ground := Ground.data }, { on := 8, ground := Ground.chain }, { on := 8, ground := Ground.guard }], guard := some (8, true) }) (oL := { dst := some 177, op := Op.call { callee := Callee.value (Operand.func 25), args := #[Operand.tmp 176], argTypes := #[43] }, type := 4, pos := "law.go:128", after := #[{ on := 24, ground := Ground.data }, { on := 23, ground := Ground.chain }, { on := 23, ground := Ground.guard }], guard := some (23, true) }) (clo_grown _) rfl rfl rfl (by kernel_rfl) (by kernel_rfl) (by kernel_rfl) (by kernel_rfl) (by kernel_rfl) (fun _ _ _ h => by cases h.1) (YG.call (by rfl) (fun _ => by go_simp) (fun u hu => (atc_n other ho g1 x1 u (C1.out.grown hu)).mono fun e w2 h => ⟨h.1, h.2 ▸ World.grownBy.refl _ _⟩)) ?_
      simp only [Act.put, List.setIfInBounds_toArray, List.set_cons_zero, List.set_cons_succ]
      refine wpY_take 7 13 (v := .slice (some ⟨ba, 0, none⟩) 2 2) (oi := { dst := some 165, op := Op.move (Operand.tmp 9), type := 53, pos := "law.go:128", after := #[{ on := 8, ground := Ground.guard }], guard := some (8, true) }) (oL := { dst := some 177, op := Op.call { callee := Callee.value (Operand.func 25), args := #[Operand.tmp 176], argTypes := #[43] }, type := 4, pos := "law.go:128", after := #[{ on := 24, ground := Ground.data }, { on := 23, ground := Ground.chain }, { on := 23, ground := Ground.guard }], guard := some (23, true) }) (clo_grown _) rfl rfl rfl (by kernel_rfl) (by kernel_rfl) (by kernel_rfl) (by kernel_rfl) (by kernel_rfl) (fun _ _ _ h => by cases h.1) (YG.val (by rfl) (fun _ _ => by go_simp)) ?_
      simp only [Act.put, List.setIfInBounds_toArray, List.set_cons_zero, List.set_cons_succ]
      refine wpY_take 6 14 (v := .pointer (some ⟨ba, 1, none⟩)) (oi := { dst := some 166, op := Op.indexAddr 53 (Operand.tmp 165) (Operand.const (Value.int IntKind.i64 1)), type := 0, pos := "law.go:128", after := #[{ on := 13, ground := Ground.data }, { on := 8, ground := Ground.guard }], guard := some (8, true) }) (oL := { dst := some 177, op := Op.call { callee := Callee.value (Operand.func 25), args := #[Operand.tmp 176], argTypes := #[43] }, type := 4, pos := "law.go:128", after := #[{ on := 24, ground := Ground.data }, { on := 23, ground := Ground.chain }, { on := 23, ground := Ground.guard }], guard := some (23, true) }) (clo_grown _) rfl rfl rfl (by kernel_rfl) (by kernel_rfl) (by kernel_rfl) (by kernel_rfl) (by kernel_rfl) (fun _ _ _ h => by cases h.1) (YG.val (by rfl) (fun _ _ => by go_simp)) ?_
      simp only [Act.put, List.setIfInBounds_toArray, List.set_cons_zero, List.set_cons_succ]
      refine wpY_take 5 15 (v := .int .i64 x1) (oi := { dst := some 167, op := Op.load 3 (Operand.tmp 166), type := 3, pos := "law.go:128", after := #[{ on := 14, ground := Ground.data }, { on := 8, ground := Ground.guard }], guard := some (8, true) }) (oL := { dst := some 177, op := Op.call { callee := Callee.value (Operand.func 25), args := #[Operand.tmp 176], argTypes := #[43] }, type := 4, pos := "law.go:128", after := #[{ on := 24, ground := Ground.data }, { on := 23, ground := Ground.chain }, { on := 23, ground := Ground.guard }], guard := some (23, true) }) (clo_grown _) rfl rfl rfl (by kernel_rfl) (by kernel_rfl) (by kernel_rfl) (by kernel_rfl) (by kernel_rfl) (fun _ _ _ h => by cases h.1) (YG.val (by rfl) (fun u hu => by have c := Row.cell (RA.out.grown hu) 1; simp at c; go_simp)) ?_
      simp only [Act.put, List.setIfInBounds_toArray, List.set_cons_zero, List.set_cons_succ]
      refine wpY_take 4 16 (v := .bool true) (oi := { dst := some 168, op := Op.binOp BinOp.eql 3 (Operand.tmp 164) (Operand.tmp 167) 3, type := 4, pos := "law.go:128", after := #[{ on := 12, ground := Ground.data }, { on := 15, ground := Ground.data }, { on := 8, ground := Ground.guard }], guard := some (8, true) }) (oL := { dst := some 177, op := Op.call { callee := Callee.value (Operand.func 25), args := #[Operand.tmp 176], argTypes := #[43] }, type := 4, pos := "law.go:128", after := #[{ on := 24, ground := Ground.data }, { on := 23, ground := Ground.chain }, { on := 23, ground := Ground.guard }], guard := some (23, true) }) (clo_grown _) rfl rfl rfl (by kernel_rfl) (by kernel_rfl) (by kernel_rfl) (by kernel_rfl) (by kernel_rfl) (fun _ _ _ h => by cases h.1) (YG.val (by rfl) (fun _ _ => by go_simp)) ?_
      simp only [Act.put, List.setIfInBounds_toArray, List.set_cons_zero, List.set_cons_succ]
      refine wpY_take 3 17 (v := .bool true) (oi := { dst := some 169, op := Op.pick (Operand.tmp 160) (Operand.tmp 168) (Operand.const (Value.bool false)), type := 4, pos := "law.go:128", after := #[{ on := 8, ground := Ground.data }, { on := 16, ground := Ground.data }], guard := none }) (oL := { dst := some 177, op := Op.call { callee := Callee.value (Operand.func 25), args := #[Operand.tmp 176], argTypes := #[43] }, type := 4, pos := "law.go:128", after := #[{ on := 24, ground := Ground.data }, { on := 23, ground := Ground.chain }, { on := 23, ground := Ground.guard }], guard := some (23, true) }) (clo_grown _) rfl rfl rfl (by kernel_rfl) (by kernel_rfl) (by kernel_rfl) (by kernel_rfl) (by kernel_rfl) (fun _ _ _ h => by cases h.1) (YG.val (by rfl) (fun _ _ => by go_simp)) ?_
      simp only [Act.put, List.setIfInBounds_toArray, List.set_cons_zero, List.set_cons_succ]
      refine wpY_take 2 18 (v := .bool true) (oi := { dst := some 170, op := Op.move (Operand.tmp 169), type := 4, pos := "law.go:128", after := #[{ on := 17, ground := Ground.data }, { on := 12, ground := Ground.chain }], guard := none }) (oL := { dst := some 177, op := Op.call { callee := Callee.value (Operand.func 25), args := #[Operand.tmp 176], argTypes := #[43] }, type := 4, pos := "law.go:128", after := #[{ on := 24, ground := Ground.data }, { on := 23, ground := Ground.chain }, { on := 23, ground := Ground.guard }], guard := some (23, true) }) (clo_grown _) rfl rfl rfl (by kernel_rfl) (by kernel_rfl) (by kernel_rfl) (by kernel_rfl) (by kernel_rfl) (fun _ _ _ h => by cases h.1) (YG.val (by rfl) (fun _ _ => by go_simp)) ?_
      simp only [Act.put, List.setIfInBounds_toArray, List.set_cons_zero, List.set_cons_succ]
      refine wpY_take 2 19 (v := .slice ag m cg) (oi := { dst := some 171, op := Op.move (Operand.tmp 10), type := 43, pos := "law.go:128", after := #[{ on := 18, ground := Ground.guard }], guard := some (18, true) }) (oL := { dst := some 177, op := Op.call { callee := Callee.value (Operand.func 25), args := #[Operand.tmp 176], argTypes := #[43] }, type := 4, pos := "law.go:128", after := #[{ on := 24, ground := Ground.data }, { on := 23, ground := Ground.chain }, { on := 23, ground := Ground.guard }], guard := some (23, true) }) (clo_grown _) rfl rfl rfl (by kernel_rfl) (by kernel_rfl) (by kernel_rfl) (by kernel_rfl) (by kernel_rfl) (fun _ _ _ h => by cases h.1) (YG.val (by rfl) (fun _ _ => by go_simp)) ?_
      simp only [Act.put, List.setIfInBounds_toArray, List.set_cons_zero, List.set_cons_succ]
      refine wpY_take 2 20 (v := .slice aw m cw) (oi := { dst := some 172, op := Op.move (Operand.tmp 11), type := 43, pos := "law.go:128", after := #[{ on := 18, ground := Ground.guard }], guard := some (18, true) }) (oL := { dst := some 177, op := Op.call { callee := Callee.value (Operand.func 25), args := #[Operand.tmp 176], argTypes := #[43] }, type := 4, pos := "law.go:128", after := #[{ on := 24, ground := Ground.data }, { on := 23, ground := Ground.chain }, { on := 23, ground := Ground.guard }], guard := some (23, true) }) (clo_grown _) rfl rfl rfl (by kernel_rfl) (by kernel_rfl) (by kernel_rfl) (by kernel_rfl) (by kernel_rfl) (fun _ _ _ h => by cases h.1) (YG.val (by rfl) (fun _ _ => by go_simp)) ?_
      simp only [Act.put, List.setIfInBounds_toArray, List.set_cons_zero, List.set_cons_succ]
      refine wpY_take 1 21 (v := .bool true) (oi := { dst := some 173, op := Op.call { callee := Callee.value (Operand.func 32), args := #[Operand.tmp 171, Operand.tmp 172], argTypes := #[43, 43] }, type := 4, pos := "law.go:128", after := #[{ on := 19, ground := Ground.data }, { on := 20, ground := Ground.data }, { on := 18, ground := Ground.chain }, { on := 18, ground := Ground.guard }], guard := some (18, true) }) (oL := { dst := some 177, op := Op.call { callee := Callee.value (Operand.func 25), args := #[Operand.tmp 176], argTypes := #[43] }, type := 4, pos := "law.go:128", after := #[{ on := 24, ground := Ground.data }, { on := 23, ground := Ground.chain }, { on := 23, ground := Ground.guard }], guard := some (23, true) }) (clo_grown _) rfl rfl rfl (by kernel_rfl) (by kernel_rfl) (by kernel_rfl) (by kernel_rfl) (by kernel_rfl) (fun _ _ _ h => by cases h.1) (YG.call (by rfl) (fun _ => by go_simp) (fun u hu => (sameLists_n ag aw cg cw m m Lg Lw bs bs u (LIs.liesT (LG.out.grown hu)) (LIs.liesT (LW.out.grown hu)) HM.out HM.out (by have := HM.out; unfold maxLen; omega) (fun p hp => by have := BX.out p hp; unfold maxLen; omega)).mono fun e w2 h => ⟨by rw [h.1]; simp, by obtain ⟨q, hq⟩ := h.2; rw [hq]; exact grownBy_drewN _ _ _⟩)) ?_
      simp only [Act.put, List.setIfInBounds_toArray, List.set_cons_zero, List.set_cons_succ]
      refine wpY_take 1 22 (v := .bool true) (oi := { dst := some 174, op := Op.pick (Operand.tmp 170) (Operand.tmp 173) (Operand.const (Value.bool false)), type := 4, pos := "law.go:128", after := #[{ on := 18, ground := Ground.data }, { on := 21, ground := Ground.data }], guard := none }) (oL := { dst := some 177, op := Op.call { callee := Callee.value (Operand.func 25), args := #[Operand.tmp 176], argTypes := #[43] }, type := 4, pos := "law.go:128", after := #[{ on := 24, ground := Ground.data }, { on := 23, ground := Ground.chain }, { on := 23, ground := Ground.guard }], guard := some (23, true) }) (clo_grown _) rfl rfl rfl (by kernel_rfl) (by kernel_rfl) (by kernel_rfl) (by kernel_rfl) (by kernel_rfl) (fun _ _ _ h => by cases h.1) (YG.val (by rfl) (fun _ _ => by go_simp)) ?_
      simp only [Act.put, List.setIfInBounds_toArray, List.set_cons_zero, List.set_cons_succ]
      refine wpY_take 0 23 (v := .bool true) (oi := { dst := some 175, op := Op.move (Operand.tmp 174), type := 4, pos := "law.go:128", after := #[{ on := 22, ground := Ground.data }, { on := 21, ground := Ground.chain }], guard := none }) (oL := { dst := some 177, op := Op.call { callee := Callee.value (Operand.func 25), args := #[Operand.tmp 176], argTypes := #[43] }, type := 4, pos := "law.go:128", after := #[{ on := 24, ground := Ground.data }, { on := 23, ground := Ground.chain }, { on := 23, ground := Ground.guard }], guard := some (23, true) }) (clo_grown _) rfl rfl rfl (by kernel_rfl) (by kernel_rfl) (by kernel_rfl) (by kernel_rfl) (by kernel_rfl) (fun _ _ _ h => by cases h.1) (YG.val (by rfl) (fun _ _ => by go_simp)) ?_
      simp only [Act.put, List.setIfInBounds_toArray, List.set_cons_zero, List.set_cons_succ]
      refine wpY_take 0 24 (v := .slice ag m cg) (oi := { dst := some 176, op := Op.move (Operand.tmp 10), type := 43, pos := "law.go:128", after := #[{ on := 23, ground := Ground.guard }], guard := some (23, true) }) (oL := { dst := some 177, op := Op.call { callee := Callee.value (Operand.func 25), args := #[Operand.tmp 176], argTypes := #[43] }, type := 4, pos := "law.go:128", after := #[{ on := 24, ground := Ground.data }, { on := 23, ground := Ground.chain }, { on := 23, ground := Ground.guard }], guard := some (23, true) }) (clo_grown _) rfl rfl rfl (by kernel_rfl) (by kernel_rfl) (by kernel_rfl) (by kernel_rfl) (by kernel_rfl) (fun _ _ _ h => by cases h.1) (YG.val (by rfl) (fun _ _ => by go_simp)) ?_
      simp only [Act.put, List.setIfInBounds_toArray, List.set_cons_zero, List.set_cons_succ]
      refine wpY_last (oL := { dst := some 177, op := Op.call { callee := Callee.value (Operand.func 25), args := #[Operand.tmp 176], argTypes := #[43] }, type := 4, pos := "law.go:128", after := #[{ on := 24, ground := Ground.data }, { on := 23, ground := Ground.chain }, { on := 23, ground := Ground.guard }], guard := some (23, true) }) rfl (by kernel_rfl) (by rfl) (fun u hS K hK => ?_)
      have HK := Lib.hid hK
      have LGU := Lib.hid (LG.out.grown hS)
      have BZU := Lib.hid (Nat.le_trans BZ.out hS.size)
      have GRU := Lib.hid (grownBy_trans GR.out hS)
      clear hK hS
      have hall : ∀ q ∈ Lg, ∃ l, BOwn u base q.a q.n q.c l ∧ q.n ≤ 100000000 := fun q hm => by
        obtain ⟨j, hj, rfl⟩ := List.getElem_of_mem hm
        have hjb : j < bs.length := by have h1 := HM.out; have h2 := HLM.out; omega
        have h1 := LGU.out.inner j hj hjb
        have h2 := BX.out _ (List.getElem_mem hjb)
        have h3 := h1.len
        exact ⟨_, h1, by omega⟩
      have hst : TSt1 base ag cg Lg u 0 0 u := tst1_own LGU.out.outer (fun j hj => by
        obtain ⟨l, h1, _⟩ := hall _ (List.getElem_mem hj)
        exact ⟨l, h1⟩)
      refine wp_call_op (f := 25) (args := #[.slice ag m cg]) (w1 := u) (by go_simp) ((apartT_n base ag cg m Lg u hst BZU.out LGU.out.apart HLM.out (by have := HM.out; omega) (fun j hj => (hall _ (List.getElem_mem hj)).choose_spec.2)).mono ?_)
      rintro e wE ⟨rfl, hbel⟩
      have GE := Lib.hid (grown_below GRU.out hbel.toBelow (by have := ORD.out; omega))
      clear hbel hall hst
      refine ⟨_, rfl, HK.out _ _ ?_⟩
      simp only [Act.put, List.setIfInBounds_toArray, List.set_cons_zero, List.set_cons_succ]
      refine wpAny_one 26 (o := { dst := some 178, op := Op.pick (Operand.tmp 175) (Operand.tmp 177) (Operand.const (Value.bool false)), type := 4, pos := "law.go:128", after := #[{ on := 23, ground := Ground.data }, { on := 25, ground := Ground.data }], guard := none }) rfl (by kernel_rfl) (by rfl) (v := .bool true) (by go_simp) ?_
      simp only [Act.put, List.setIfInBounds_toArray, List.set_cons_zero, List.set_cons_succ]
      refine wpAny_one 27 (o := { dst := some 6, op := Op.assign (Operand.tmp 178), type := 4, pos := "law.go:128", after := #[{ on := 26, ground := Ground.data }, { on := 25, ground := Ground.chain }, { on := 0, ground := Ground.phase }, { on := 1, ground := Ground.phase }, { on := 2, ground := Ground.phase }, { on := 3, ground := Ground.phase }, { on := 4, ground := Ground.phase }, { on := 5, ground := Ground.phase }, { on := 6, ground := Ground.phase }, { on := 7, ground := Ground.phase }, { on := 8, ground := Ground.phase }, { on := 9, ground := Ground.phase }, { on := 10, ground := Ground.phase }, { on := 11, ground := Ground.phase }, { on := 12, ground := Ground.phase }, { on := 13, ground := Ground.phase }, { on := 14, ground := Ground.phase }, { on := 15, ground := Ground.phase }, { on := 16, ground := Ground.phase }, { on := 17, ground := Ground.phase }, { on := 18, ground := Ground.phase }, { on := 19, ground := Ground.phase }, { on := 20, ground := Ground.phase }, { on := 21, ground := Ground.phase }, { on := 22, ground := Ground.phase }, { on := 23, ground := Ground.phase }, { on := 24, ground := Ground.phase }, { on := 25, ground := Ground.phase }, { on := 26, ground := Ground.phase }], guard := none }) rfl (by kernel_rfl) (by rfl) (v := .bool true) (by go_simp) ?_
      simp only [Act.put, List.setIfInBounds_toArray, List.set_cons_zero, List.set_cons_succ]
      refine wpAny_done (by kernel_rfl) ?_ _
      refine ⟨rfl, ?_⟩
      go_wp2_with fail
      go_ret
      exact ⟨rfl, GE.out⟩
end Go.Proofs.Ytblgdfamomlklaa
