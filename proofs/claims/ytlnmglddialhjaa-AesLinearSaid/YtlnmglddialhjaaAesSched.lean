/- aes: schedule. -/
import Derived.Test.YtlnmglddialhjaaAesKs
import Derived.Deep.RegionWith
namespace Go.Proofs.Ytlnmglddialhjaa
open Go.RowKit

theorem size_four' : (Try.prog.info? 31).map (·.size) = some 4 := by kernel_rfl
theorem size_keys : (Try.prog.info? 28).map (·.size) = some 176 := by kernel_rfl
theorem size_words : (Try.prog.info? 68).map (·.size) = some 176 := by kernel_rfl
theorem zero28 : Try.zeroCells28 = cellsB z176 := by kernel_rfl
theorem zero68 : Try.zeroCells68 = cellsB z176 := by kernel_rfl
theorem threeC (w : World) (c1 c2 c3 : List UInt8) (C1 C2 C3 : Array Value) (t1 t2 t3 : TypeId) (e1 : C1 = cellsB c1) (e2 : C2 = cellsB c2) (e3 : C3 = cellsB c3) :
    Blk (((w.alloc (.cells C1 t1)).alloc (.cells C2 t2)).alloc (.cells C3 t3)) w.heap.size t1 c1 ∧ Blk (((w.alloc (.cells C1 t1)).alloc (.cells C2 t2)).alloc (.cells C3 t3)) (w.heap.size + 1) t2 c2 ∧
    Blk (((w.alloc (.cells C1 t1)).alloc (.cells C2 t2)).alloc (.cells C3 t3)) (w.heap.size + 1 + 1) t3 c3 ∧ w.grownBy (((w.alloc (.cells C1 t1)).alloc (.cells C2 t2)).alloc (.cells C3 t3)) none := by
  subst e1 e2 e3
  exact three w c1 c2 c3 t1 t2 t3
theorem run_index_row {P : Program} {t e f : TypeId} {n m : Nat} (h : P.underlying t = some (.array n e)) (he : P.underlying e = some (.array m f)) (hsz : (P.info? e).map (·.size) = some m)
    (cs : Array Value) (k : IntKind) (i : Nat) (hi : i < n) (w : World) : (Instr.index t (.agg cs) (.int k (i : Int))).run P w = .ok (.agg (cs.extract (i * m) (i * m + m))) w := by
  cases hq : P.info? e with
  | none => simp [hq] at hsz
  | some x =>
    have hx : x.size = m := by simp [hq] at hsz; exact hsz
    have hni : ¬ n ≤ i := by omega
    simp [Instr.index, run_underlying h, asIntOf, sizeOf, typeInfo, hq, hx, part, isAgg, run_underlying he, hni, Result.andThen]
theorem wpList_index_row {P : Program} {ops : Array Oper} {rest : List Oper} {o : Oper} {a : Act} {w : World} {Q : Exit → Act → World → Prop} (hgd : o.guard = none) (ty : TypeId) (x y : Operand) (ho : o.op = .index ty x y)
    (cs : Array Value) (k : IntKind) (i : Int) (v : Value) (hx : a.eval x = .agg cs) (hy : a.eval y = .int k i) (hr : ∀ w, (Instr.index ty (.agg cs) (.int k i)).run P w = .ok v w)
    (h : wpList P ops Q rest (a.put o.dst v) w) : wpList P ops Q (o :: rest) a w :=
  wpList_plain hgd fun K hK => by
    unfold Oper.wp execOp
    simp only [ho, hx, hy, Sem.run_bind, hr, Result.andThen_ok, Sem.run_pure]
    exact hK _ _ h
theorem cells_at4 {l : List UInt8} {o : Nat} (h : o + 4 ≤ l.length) : (cellsB l).extract o (o + 4) = cellsB (at4 l o) := by
  rw [at4_eq h]
  unfold cellsB
  simp [List.map_drop, List.map_take]
theorem double_u (p : UInt8) (w : World) : Calls Try.prog 50 #[.int .u8 (p.toNat : Int)] w fun e w' => e = .returned (.int .u8 ((ax8' p).toNat : Nat)) ∧ w = w' := by
  rw [ax8_nat]
  exact doubleN_any p.toNat w p.toNat_lt
theorem tab_cell {w : World} {gt ot : Nat} (h : w.rangeAt gt ot (tabS.map bval)) (x : UInt8) : w.cell? ⟨gt, ot + x.toNat, none⟩ = some (.int .u8 ((asub x).toNat : Int)) := by
  have hx := x.toNat_lt
  have hl : x.toNat < tabS.length := by rw [tabS_len]; omega
  have := h x.toNat (.int .u8 ((tabS.getD x.toNat 0).toNat : Int)) (by simp [hl, bval])
  rwa [tabS_get] at this

theorem copy4 (W : World) (g0 o n gx : Nat) (t0 tx : TypeId) (m o0 : List UInt8) (hm : m.length = 4) (hn : 4 ≤ n) (hO : Blk W g0 t0 o0) (ho : o + 4 ≤ o0.length) (hX : Blk W gx tx m) :
    (Builtin.copy_ #[74, 74] 3 #[.slice (some ⟨g0, o, none⟩) n n, .slice (some ⟨gx, 0, none⟩) 4 4]).run Try.prog W = .ok (.int .i64 4) (W.setCells g0 o (m.map bval)) := by
  have h := run_copy_cells (P := Try.prog) W 74 74 3 5 g0 o n n ⟨gx, 0, none⟩ 4 4 (m.map bval) Try.underlying74 (by kernel_rfl) (by rw [List.length_map, hm]; exact (Nat.min_eq_left hn).symm)
    (fun j v hj => by rw [Addr.add_mid]; exact hX.range j v hj) (fun j hj => by rw [hO.cell _ rfl (o + j) (by rw [List.length_map, hm] at hj; omega)]; rfl) (fun j _ => hO.free _) (fun v hv => by obtain ⟨y, _, rfl⟩ := List.mem_map.1 hv; rfl)
  rw [h, List.length_map, hm]
  rfl
theorem arr_at (g o c : Nat) (w : World) : (Instr.arrayAt 31 (.slice (some ⟨g, o, none⟩) 4 c)).run Try.prog w = .ok (.pointer (some ⟨g, o, none⟩)) w := by
  simp [Instr.arrayAt, run_underlying Try.underlying31, Result.andThen]

set_option maxRecDepth 100000 in
set_option maxHeartbeats 4000000 in
theorem schedule_n (k : List UInt8) (hk : k.length = 16) (gt ot : Nat) (w : World) (ht : w.rangeAt gt ot (tabS.map bval)) (hgt : gt < w.heap.size) :
    Calls Try.prog 54 #[aggB k, .pointer (some ⟨gt, ot, none⟩)] w fun e w' => e = .returned (aggB (keysL k)) ∧ w.grownBy w' none := by
  obtain ⟨kk, hkk⟩ : ∃ kk, kk = keysL k := ⟨_, rfl⟩
  obtain ⟨z, hz⟩ : ∃ z, z = z176 := ⟨_, rfl⟩
  have hzl : z.length = 176 := by rw [hz]; exact z176_len
  have e28 : Try.zeroCells28 = cellsB z := by rw [hz]; exact zero28
  have e68 : Try.zeroCells68 = cellsB z := by rw [hz]; exact zero68
  have hke : kk = (ks k z 44).1 := by rw [hkk, hz]; rfl
  rw [← hkk]
  have HKE := Lib.hid hke
  have E28 := Lib.hid e28
  unfold aggB
  obtain ⟨hb, hr, hs, hg⟩ := threeC w k z z (cellsB k) Try.zeroCells28 Try.zeroCells68 26 28 68 rfl e28 e68
  have HR := Lib.hid hr
  have HS := Lib.hid hs
  have HG := Lib.hid hg
  have HB := Lib.hid hb
  have HT0 := Lib.hid ht
  clear hr hg hs hb ht hkk hz hke e28 e68
  go_enter Try.func54, Try.ntmps54
  go_wp2_with fail
  go_loopw [14] (fun vi wr => ∃ i : Nat, i ≤ 4 ∧ vi = .int .i64 i ∧ Blk wr w.heap.size 26 k ∧ Blk wr (w.heap.size + 1) 28 z ∧ Blk wr (w.heap.size + 1 + 1) 68 (iterU (kwF k) z i) ∧ w.grownBy wr none) (fun vi _ => 4 - (intOf vi).toNat)
  case atStart => exact ⟨0, by omega, rfl, HB.out, HR.out, HS.out, HG.out⟩
  case round =>
    obtain ⟨i, hi, rfl, hb, hr, hs, hg⟩ := hrel
    have HBB := Lib.hid hb
    have HRR := Lib.hid hr
    have HGG := Lib.hid hg
    have HSS := Lib.hid hs
    have hlen : (iterU (kwF k) z i).length = 176 := (iterU_len (kwF_len k) i).trans hzl
    have HLEN := Lib.hid hlen
    clear hr hg hs hb hlen
    by_cases hlt : i < 4
    · have harr := fun (o c : Nat) (w1 : World) => arr_at w.heap.size o c w1
      obtain rfl | rfl | rfl | rfl : i = 0 ∨ i = 1 ∨ i = 2 ∨ i = 3 := by omega
      · have e0 : ((0 : Nat) : Int) = 0 := rfl
        rw [e0]
        obtain ⟨m, hm⟩ : ∃ m, m = at4 k 0 := ⟨_, rfl⟩
        have hml : m.length = 4 := by rw [hm]; rfl
        have he : iterU (kwF k) z (0 + 1) = spl (iterU (kwF k) z 0) 0 m := by rw [hm]; rfl
        have HA := Lib.hid (show wr.rangeAt w.heap.size 0 (m.map bval) from by rw [hm]; exact HBB.out.at4 (by rw [hk]; decide))
        have HC := Lib.hid (show wr.there (w.heap.size + 1 + 1) 0 (cellsB m).size from by rw [cellsB_size, hml]; exact HSS.out.there (by rw [HLEN.out]; decide))
        have HE := Lib.hid he
        clear hm he
        go_wp2_with (first | (refine wpList_load_mid rfl 31 _ rfl w.heap.size 0 rfl (m.map bval) _ HA.out Try.underlying31 rfl (by rw [size_four', List.length_map, hml]) ?_) | (refine wpList_store_mid rfl 31 _ _ rfl (w.heap.size + 1 + 1) 0 (cellsB m) rfl rfl HC.out (by rw [size_four', cellsB_size, hml]) (cellsB_one _) ?_))
        go_roundw
        case rel => exact ⟨1, by decide, rfl, HBB.out.splNe _ (by omega), HRR.out.splNe _ (by omega), by rw [HE.out]; exact HSS.out.spl m, grownBy_old HGG.out (grownBy_spl _ _ _ _) (by omega)⟩
        case measure => simp [intOf]
      · have e0 : ((1 : Nat) : Int) = 1 := rfl
        rw [e0]
        obtain ⟨m, hm⟩ : ∃ m, m = at4 k 4 := ⟨_, rfl⟩
        have hml : m.length = 4 := by rw [hm]; rfl
        have he : iterU (kwF k) z (1 + 1) = spl (iterU (kwF k) z 1) 4 m := by rw [hm]; rfl
        have HA := Lib.hid (show wr.rangeAt w.heap.size 4 (m.map bval) from by rw [hm]; exact HBB.out.at4 (by rw [hk]; decide))
        have HC := Lib.hid (show wr.there (w.heap.size + 1 + 1) 4 (cellsB m).size from by rw [cellsB_size, hml]; exact HSS.out.there (by rw [HLEN.out]; decide))
        have HE := Lib.hid he
        clear hm he
        go_wp2_with (first | (refine wpList_load_mid rfl 31 _ rfl w.heap.size 4 rfl (m.map bval) _ HA.out Try.underlying31 rfl (by rw [size_four', List.length_map, hml]) ?_) | (refine wpList_store_mid rfl 31 _ _ rfl (w.heap.size + 1 + 1) 4 (cellsB m) rfl rfl HC.out (by rw [size_four', cellsB_size, hml]) (cellsB_one _) ?_))
        go_roundw
        case rel => exact ⟨2, by decide, rfl, HBB.out.splNe _ (by omega), HRR.out.splNe _ (by omega), by rw [HE.out]; exact HSS.out.spl m, grownBy_old HGG.out (grownBy_spl _ _ _ _) (by omega)⟩
        case measure => simp [intOf]
      · have e0 : ((2 : Nat) : Int) = 2 := rfl
        rw [e0]
        obtain ⟨m, hm⟩ : ∃ m, m = at4 k 8 := ⟨_, rfl⟩
        have hml : m.length = 4 := by rw [hm]; rfl
        have he : iterU (kwF k) z (2 + 1) = spl (iterU (kwF k) z 2) 8 m := by rw [hm]; rfl
        have HA := Lib.hid (show wr.rangeAt w.heap.size 8 (m.map bval) from by rw [hm]; exact HBB.out.at4 (by rw [hk]; decide))
        have HC := Lib.hid (show wr.there (w.heap.size + 1 + 1) 8 (cellsB m).size from by rw [cellsB_size, hml]; exact HSS.out.there (by rw [HLEN.out]; decide))
        have HE := Lib.hid he
        clear hm he
        go_wp2_with (first | (refine wpList_load_mid rfl 31 _ rfl w.heap.size 8 rfl (m.map bval) _ HA.out Try.underlying31 rfl (by rw [size_four', List.length_map, hml]) ?_) | (refine wpList_store_mid rfl 31 _ _ rfl (w.heap.size + 1 + 1) 8 (cellsB m) rfl rfl HC.out (by rw [size_four', cellsB_size, hml]) (cellsB_one _) ?_))
        go_roundw
        case rel => exact ⟨3, by decide, rfl, HBB.out.splNe _ (by omega), HRR.out.splNe _ (by omega), by rw [HE.out]; exact HSS.out.spl m, grownBy_old HGG.out (grownBy_spl _ _ _ _) (by omega)⟩
        case measure => simp [intOf]
      · have e0 : ((3 : Nat) : Int) = 3 := rfl
        rw [e0]
        obtain ⟨m, hm⟩ : ∃ m, m = at4 k 12 := ⟨_, rfl⟩
        have hml : m.length = 4 := by rw [hm]; rfl
        have he : iterU (kwF k) z (3 + 1) = spl (iterU (kwF k) z 3) 12 m := by rw [hm]; rfl
        have HA := Lib.hid (show wr.rangeAt w.heap.size 12 (m.map bval) from by rw [hm]; exact HBB.out.at4 (by rw [hk]; decide))
        have HC := Lib.hid (show wr.there (w.heap.size + 1 + 1) 12 (cellsB m).size from by rw [cellsB_size, hml]; exact HSS.out.there (by rw [HLEN.out]; decide))
        have HE := Lib.hid he
        clear hm he
        go_wp2_with (first | (refine wpList_load_mid rfl 31 _ rfl w.heap.size 12 rfl (m.map bval) _ HA.out Try.underlying31 rfl (by rw [size_four', List.length_map, hml]) ?_) | (refine wpList_store_mid rfl 31 _ _ rfl (w.heap.size + 1 + 1) 12 (cellsB m) rfl rfl HC.out (by rw [size_four', cellsB_size, hml]) (cellsB_one _) ?_))
        go_roundw
        case rel => exact ⟨4, by decide, rfl, HBB.out.splNe _ (by omega), HRR.out.splNe _ (by omega), by rw [HE.out]; exact HSS.out.spl m, grownBy_old HGG.out (grownBy_spl _ _ _ _) (by omega)⟩
        case measure => simp [intOf]
    · obtain rfl : i = 4 := by omega
      have e4 : ((4 : Nat) : Int) = 4 := rfl
      rw [e4]
      clear e4
      have HTT := Lib.hid (range_grown HT0.out HGG.out)
      go_wp2_with fail
      go_loopw [7, 8] (fun vp vi wr => ∃ i : Nat, 4 ≤ i ∧ i ≤ 44 ∧ vi = .int .i64 i ∧ vp = .int .u8 ((ks k z i).2.toNat : Int) ∧ Blk wr (w.heap.size + 1) 28 z ∧ Blk wr (w.heap.size + 1 + 1) 68 (ks k z i).1 ∧ wr.rangeAt gt ot (tabS.map bval) ∧ w.grownBy wr none) (fun _ vi _ => 44 - (intOf vi).toNat)
      case atStart => exact ⟨4, by omega, by omega, rfl, by rw [ks_four2]; rfl, HRR.out, by rw [ks_four1]; unfold kw; exact HSS.out, HTT.out, HGG.out⟩
      case round =>
        clear HBB HRR HGG HSS HLEN HTT hlt hi
        obtain ⟨i, hi4, hi, rfl, rfl, hr, hs, ht, hg⟩ := hrel
        have HRR := Lib.hid hr
        have HGG := Lib.hid hg
        have HSS := Lib.hid hs
        have HTT := Lib.hid ht
        clear hr hg hs ht
        by_cases hlt : i < 44
        · have hl := ks_len k z hzl i
          obtain ⟨l, hle⟩ : ∃ l, l = (ks k z i).1 := ⟨_, rfl⟩
          obtain ⟨p, hpe⟩ : ∃ p, p = (ks k z i).2 := ⟨_, rfl⟩
          have hs := HSS.out
          rw [← hle] at hs hl
          have hks1 : (ks k z (i + 1)).1 = iterU (inF i (ksT l p i)) l 4 := by rw [ks_succ k z hi4, hle, hpe]; rfl
          have hks2 : (ks k z (i + 1)).2 = if i % 4 = 0 then ax8' p else p := by rw [ks_succ k z hi4, hpe]; rfl
          rw [← hpe]
          obtain ⟨t, hte⟩ : ∃ t, t = ksT l p i := ⟨_, rfl⟩
          rw [← hte] at hks1
          have htl : t.length = 4 := by rw [hte]; exact ksT_len _ _ _
          have HK1 := Lib.hid hks1
          have HK2 := Lib.hid hks2
          have HTE := Lib.hid hte
          obtain ⟨m1, hm1⟩ : ∃ m, m = at4 l ((i - 1) * 4) := ⟨_, rfl⟩
          have hm1l : m1.length = 4 := by rw [hm1]; rfl
          have HM1 := Lib.hid hm1
          have HR4 := Lib.hid (show wr.rangeAt (w.heap.size + 1 + 1) ((i - 1) * 4) (m1.map bval) from by rw [hm1]; exact hs.at4 (by omega))
          clear hm1
          have hn := Blk.new wr 31 [0, 0, 0, 0]
          have gn := World.grownBy_alloc wr (.cells (cellsB [0, 0, 0, 0]) 31) none
          have hgs := HGG.out.size
          have hlt2 := HRR.out.lt
          have hlt3 := HSS.out.lt
          obtain ⟨W1, hW1⟩ : ∃ W, W = (wr.alloc (.cells #[.int .u8 0, .int .u8 0, .int .u8 0, .int .u8 0] 31)).setRow wr.heap.size (cellsB m1) := ⟨_, rfl⟩
          have HN := Lib.hid hn
          have HB1 := Lib.hid (show Blk W1 wr.heap.size 31 m1 from hW1 ▸ hn.row m1)
          have HR1 := Lib.hid (show Blk W1 (w.heap.size + 1) 28 z from hW1 ▸ (HRR.out.grown gn (by simp)).rowNe (cellsB m1) (show w.heap.size + 1 ≠ wr.heap.size by omega))
          have HS1 := Lib.hid (show Blk W1 (w.heap.size + 1 + 1) 68 l from hW1 ▸ (hs.grown gn (by simp)).rowNe (cellsB m1) (show w.heap.size + 1 + 1 ≠ wr.heap.size by omega))
          have HT1 := Lib.hid (show W1.rangeAt gt ot (tabS.map bval) from hW1 ▸ range_other (range_grown HTT.out gn) (grownBy_setRow _ wr.heap.size (cellsB m1)) (show gt ≠ wr.heap.size by omega))
          have HG1 := Lib.hid (show w.grownBy W1 none from hW1 ▸ grownBy_old (grownBy_trans HGG.out gn) (grownBy_setRow _ wr.heap.size (cellsB m1)) (by omega))
          clear hn gn hs hks1 hks2 hte hle hpe HSS HTT HRR HGG
          by_cases h4 : i % 4 = 0
          · have e3 : (i : Int).tmod 4 = 0 := by rw [Int.tmod_eq_emod_of_nonneg (by omega)]; omega
            go_wp2_with (first | (refine wpList_load_mid rfl 31 _ rfl (w.heap.size + 1 + 1) ((i - 1) * 4) rfl (m1.map bval) _ HR4.out Try.underlying31 rfl (by rw [size_four', List.length_map, hm1l]) ?_) | (refine wpList_store_row rfl 31 _ _ rfl wr.heap.size (cellsB m1) rfl rfl 31 _ HN.out (by rw [size_four', cellsB_size, hm1l]) (by rw [cellsB_size, cellsB_size, hm1l]; rfl) (cellsB_one _) ?_))
            rw [← hW1]
            obtain ⟨x0, y0⟩ : ∃ x, x = m1.getD 0 0 := ⟨_, rfl⟩
            obtain ⟨x1, y1⟩ : ∃ x, x = m1.getD 1 0 := ⟨_, rfl⟩
            obtain ⟨x2, y2⟩ : ∃ x, x = m1.getD 2 0 := ⟨_, rfl⟩
            obtain ⟨x3, y3⟩ : ∃ x, x = m1.getD 3 0 := ⟨_, rfl⟩
            have ht' : t = [asub x1 ^^^ p, asub x2, asub x3, asub x0] := by
              rw [HTE.out, y0, y1, y2, y3, HM1.out]; unfold ksT; rw [if_pos h4]; rfl
            have HB3 := Lib.hid HB1.out.dr
            have HR3 := Lib.hid HR1.out.dr
            have HS3 := Lib.hid HS1.out.dr
            have HT3 := Lib.hid (range_grown HT1.out (grownBy_d1 (World.grownBy.refl W1 none)))
            have HG3 := Lib.hid (grownBy_d1 HG1.out)
            clear HB1 HR1 HS1 HT1 HG1
            have hc := HB3.out.cell 4 hm1l
            have c0 := hc 0 (by decide)
            have c1 := hc 1 (by decide)
            have c2 := hc 2 (by decide)
            have c3 := hc 3 (by decide)
            rw [← y0] at c0
            rw [← y1] at c1
            rw [← y2] at c2
            rw [← y3] at c3
            have d0 := tab_cell HT3.out x0
            have d1 := tab_cell HT3.out x1
            have d2 := tab_cell HT3.out x2
            have d3 := tab_cell HT3.out x3
            have b0 : (x0.toNat : Int) < 256 := by have := x0.toNat_lt; omega
            have b1 : (x1.toNat : Int) < 256 := by have := x1.toNat_lt; omega
            have b2 : (x2.toNat : Int) < 256 := by have := x2.toNat_lt; omega
            have b3 : (x3.toNat : Int) < 256 := by have := x3.toNat_lt; omega
            have hx := xor_u8 (asub x1) p
            clear hc y0 y1 y2 y3
            refine wp_region_still_tail 27 (by kernel_rfl) (by kernel_rfl) ?_
            simp only [List.take_succ_cons, List.take_zero, List.drop_succ_cons, List.drop_zero]
            change wpStill _ _ W1.drew (fun a' => wpList _ _ _ _ a' W1.drew) _ _
            have hgsz : W1.heap.size = W1.drew.heap.size := rfl
            generalize W1.drew = W2 at *
            repeat still_step
            refine wpStill_nil ?_
            have HT' := Lib.hid ht'
            clear c0 c1 c2 c3 d0 d1 d2 d3 b0 b1 b2 b3 hx ht'
            go_wp2_with (first | (refine wpList_store_row rfl 31 _ _ rfl wr.heap.size (cellsB t) rfl (by rw [HT'.out]; rfl) 31 _ HB3.out (by rw [size_four', cellsB_size, htl]) (by rw [cellsB_size, cellsB_size, htl, hm1l]) (cellsB_one _) ?_) | (go_at_call 50; refine (double_u p _).mono ?_; rintro e w' ⟨rfl, rfl⟩))
            have HB2 := Lib.hid (HB3.out.row t)
            have HR2 := Lib.hid (HR3.out.rowNe (cellsB t) (show w.heap.size + 1 ≠ wr.heap.size by omega))
            have HS2 := Lib.hid (HS3.out.rowNe (cellsB t) (show w.heap.size + 1 + 1 ≠ wr.heap.size by omega))
            have HT2 := Lib.hid (range_other HT3.out (grownBy_setRow _ wr.heap.size (cellsB t)) (show gt ≠ wr.heap.size by omega))
            have HG2 := Lib.hid (grownBy_old HG3.out (grownBy_setRow _ wr.heap.size (cellsB t)) (by omega))
            clear HB3 HR3 HS3 HT3 HG3
            go_loopw [68] (fun vi wr2 => ∃ n : Nat, n ≤ 4 ∧ vi = .int .i64 n ∧ Blk wr2 (w.heap.size + 1) 28 z ∧ Blk wr2 (w.heap.size + 1 + 1) 68 (iterU (inF i t) l n) ∧ Blk wr2 wr.heap.size 31 t ∧ wr2.rangeAt gt ot (tabS.map bval) ∧ w.grownBy wr2 none) (fun vi _ => 4 - (intOf vi).toNat)
            case atStart => exact ⟨0, by omega, rfl, HR2.out, HS2.out, HB2.out, HT2.out, HG2.out⟩
            case round =>
              clear HB2 HR2 HS2 HT2 HG2
              obtain ⟨n, hn, rfl, hr, hs, hb, ht, hg⟩ := hrel
              have HRR := Lib.hid hr
              have HGG := Lib.hid hg
              have HTT := Lib.hid ht
              have hlen : (iterU (inF i t) l n).length = 176 := (iterU_len (inF_len i t) n).trans hl
              have hcell := hs.cell 176 hlen
              have hfree := hs.free
              have HSS := Lib.hid hs
              have HBB := Lib.hid hb
              clear hr hg hs hlen hb ht
              by_cases hn4 : n < 4
              · have hct := HBB.out.cell 4 htl n hn4
                have hci := hcell ((i - 4) * 4 + n) (by omega)
                have hcj := hcell (i * 4 + n) (by omega)
                have hset := HSS.out.set (i * 4 + n) ((iterU (inF i t) l n).getD ((i - 4) * 4 + n) 0 ^^^ t.getD n 0)
                have he : iterU (inF i t) l (n + 1) = (iterU (inF i t) l n).set (i * 4 + n) ((iterU (inF i t) l n).getD ((i - 4) * 4 + n) 0 ^^^ t.getD n 0) := rfl
                obtain ⟨x, hx⟩ : ∃ x, x = (iterU (inF i t) l n).getD ((i - 4) * 4 + n) 0 := ⟨_, rfl⟩
                obtain ⟨y, hy⟩ : ∃ y, y = t.getD n 0 := ⟨_, rfl⟩
                rw [← hx, ← hy] at hset he
                rw [← hx] at hci
                rw [← hy] at hct
                rw [← he] at hset
                obtain ⟨u0, hu0⟩ : ∃ u0, _ = some u0 := ⟨_, hcj⟩
                have hxy := xor_u8 x y
                have HSET := Lib.hid hset
                clear hset HSS hcell hx he hy
                go_wp2_with fail
                go_region
                go_wp2
                go_roundw
                case rel => exact ⟨n + 1, by omega, by go_num, (HRR.out.other (by omega)).dr, HSET.out.dr, (HBB.out.other (by omega)).dr, range_grown (range_other HTT.out (grownBy_setCell _ _ _ _) (by omega)) (grownBy_d1 (World.grownBy.refl _ _)), grownBy_d1 (grownBy_old HGG.out (grownBy_setCell _ _ _ _) (by omega))⟩
                case measure => simp [intOf]; omega
              · obtain rfl : n = 4 := by omega
                clear hcell hfree
                go_wp2_with fail
                go_roundw
                case rel => exact ⟨i + 1, by omega, by omega, by go_num, by rw [HK2.out, if_pos h4], HRR.out, by rw [HK1.out]; exact HSS.out, HTT.out, HGG.out⟩
                case measure => simp [intOf]; omega
          · have e3 : (i : Int).tmod 4 ≠ 0 := by rw [Int.tmod_eq_emod_of_nonneg (by omega)]; omega
            have e3b : ((i : Int).tmod 4 == 0) = false := by simpa using e3
            have e44 : decide ((i : Int) < 44) = true := by simp; omega
            go_wp2_with (first | (refine wpList_load_mid rfl 31 _ rfl (w.heap.size + 1 + 1) ((i - 1) * 4) rfl (m1.map bval) _ HR4.out Try.underlying31 rfl (by rw [size_four', List.length_map, hm1l]) ?_) | (refine wpList_store_row rfl 31 _ _ rfl wr.heap.size (cellsB m1) rfl rfl 31 _ HN.out (by rw [size_four', cellsB_size, hm1l]) (by rw [cellsB_size, cellsB_size, hm1l]; rfl) (cellsB_one _) ?_))
            rw [← hW1]
            obtain rfl : t = m1 := by rw [HTE.out, HM1.out]; unfold ksT; rw [if_neg h4]
            have HB2 := HB1
            have HR2 := HR1
            have HS2 := HS1
            have HT2 := HT1
            have HG2 := HG1
            clear HB1 HR1 HS1 HT1 HG1
            go_loopw [68] (fun vi wr2 => ∃ n : Nat, n ≤ 4 ∧ vi = .int .i64 n ∧ Blk wr2 (w.heap.size + 1) 28 z ∧ Blk wr2 (w.heap.size + 1 + 1) 68 (iterU (inF i t) l n) ∧ Blk wr2 wr.heap.size 31 t ∧ wr2.rangeAt gt ot (tabS.map bval) ∧ w.grownBy wr2 none) (fun vi _ => 4 - (intOf vi).toNat)
            case atStart => exact ⟨0, by omega, rfl, HR2.out, HS2.out, HB2.out, HT2.out, HG2.out⟩
            case round =>
              clear HB2 HR2 HS2 HT2 HG2
              obtain ⟨n, hn, rfl, hr, hs, hb, ht, hg⟩ := hrel
              have HRR := Lib.hid hr
              have HGG := Lib.hid hg
              have HTT := Lib.hid ht
              have hlen : (iterU (inF i t) l n).length = 176 := (iterU_len (inF_len i t) n).trans hl
              have hcell := hs.cell 176 hlen
              have hfree := hs.free
              have HSS := Lib.hid hs
              have HBB := Lib.hid hb
              clear hr hg hs hlen hb ht
              by_cases hn4 : n < 4
              · have hct := HBB.out.cell 4 htl n hn4
                have hci := hcell ((i - 4) * 4 + n) (by omega)
                have hcj := hcell (i * 4 + n) (by omega)
                have hset := HSS.out.set (i * 4 + n) ((iterU (inF i t) l n).getD ((i - 4) * 4 + n) 0 ^^^ t.getD n 0)
                have he : iterU (inF i t) l (n + 1) = (iterU (inF i t) l n).set (i * 4 + n) ((iterU (inF i t) l n).getD ((i - 4) * 4 + n) 0 ^^^ t.getD n 0) := rfl
                obtain ⟨x, hx⟩ : ∃ x, x = (iterU (inF i t) l n).getD ((i - 4) * 4 + n) 0 := ⟨_, rfl⟩
                obtain ⟨y, hy⟩ : ∃ y, y = t.getD n 0 := ⟨_, rfl⟩
                rw [← hx, ← hy] at hset he
                rw [← hx] at hci
                rw [← hy] at hct
                rw [← he] at hset
                obtain ⟨u0, hu0⟩ : ∃ u0, _ = some u0 := ⟨_, hcj⟩
                have hxy := xor_u8 x y
                have HSET := Lib.hid hset
                clear hset HSS hcell hx he hy
                go_wp2_with fail
                go_region
                go_wp2
                go_roundw
                case rel => exact ⟨n + 1, by omega, by go_num, (HRR.out.other (by omega)).dr, HSET.out.dr, (HBB.out.other (by omega)).dr, range_grown (range_other HTT.out (grownBy_setCell _ _ _ _) (by omega)) (grownBy_d1 (World.grownBy.refl _ _)), grownBy_d1 (grownBy_old HGG.out (grownBy_setCell _ _ _ _) (by omega))⟩
                case measure => simp [intOf]; omega
              · obtain rfl : n = 4 := by omega
                clear hcell hfree
                go_wp2_with fail
                go_roundw
                case rel => exact ⟨i + 1, by omega, by omega, by go_num, by rw [HK2.out, if_neg h4], HRR.out, by rw [HK1.out]; exact HSS.out, HTT.out, HGG.out⟩
                case measure => simp [intOf]; omega
        · obtain rfl : i = 44 := by omega
          have e44 : ((44 : Nat) : Int) = 44 := rfl
          rw [e44]
          clear e44
          have hl : (ks k z 44).1.length = 176 := ks_len k z hzl 44
          have hke := HKE.out
          clear HKE
          have hs := HSS.out
          obtain ⟨l, hle⟩ : ∃ l, l = (ks k z 44).1 := ⟨_, rfl⟩
          obtain ⟨p, hpe⟩ : ∃ p, p = (ks k z 44).2 := ⟨_, rfl⟩
          rw [← hle] at hl hke hs
          rw [← hpe]
          clear hle hpe
          have HKE := Lib.hid hke
          have hn := Blk.new wr 28 z
          rw [← E28.out] at hn
          have gn := World.grownBy_alloc wr (.cells Try.zeroCells28 28) none
          have hlt2 := HRR.out.lt
          have hlt3 := hs.lt
          have HO := Lib.hid hn
          have HR1 := Lib.hid (HRR.out.grown gn (by simp))
          have HS1 := Lib.hid (hs.grown gn (by simp))
          have HG1 := Lib.hid (grownBy_trans HGG.out gn)
          clear hn gn hs hke HSS HTT HRR HGG
          go_wp2_with (refine wpList_load_row rfl 68 _ rfl (w.heap.size + 1 + 1) rfl 68 (cellsB l) (0, 0) _ HS1.out Try.underlying68 rfl (by rw [size_words, cellsB_size, hl]) ?_)
          obtain ⟨g0, hg0⟩ : ∃ q, q = wr.heap.size := ⟨_, rfl⟩
          rw [← hg0] at HO hlt2 hlt3 ⊢
          go_loopw [87] (fun vi wr2 => ∃ j : Nat, j ≤ 44 ∧ vi = .int .i64 j ∧ Blk wr2 (w.heap.size + 1) 28 z ∧ Blk wr2 g0 28 (iterU (cpF l) z j) ∧ w.grownBy wr2 none) (fun vi _ => 44 - (intOf vi).toNat)
          case atStart => exact ⟨0, by omega, rfl, HR1.out, HO.out, HG1.out⟩
          case round =>
            clear HR1 HO HG1 HS1 hg0
            obtain ⟨j, hj, rfl, hr, hs, hg⟩ := hrel
            by_cases hlt4 : j < 44
            · obtain ⟨m, hm⟩ : ∃ m, m = at4 l (j * 4) := ⟨_, rfl⟩
              have hml : m.length = 4 := by rw [hm]; rfl
              have hidx : ∀ w1, (Instr.index 68 (.agg (cellsB l)) (.int .i64 (j : Int))).run Try.prog w1 = .ok (.agg (cellsB m)) w1 := fun w1 => by
                rw [hm, ← cells_at4 (by omega)]
                exact run_index_row Try.underlying68 Try.underlying31 (by kernel_rfl) _ _ _ hlt4 w1
              have hlen : (iterU (cpF l) z j).length = 176 := (iterU_len (cpF_len l) j).trans hzl
              have hn := Blk.new wr 31 [0, 0, 0, 0]
              have gn := World.grownBy_alloc wr (.cells (cellsB [0, 0, 0, 0]) 31) none
              obtain ⟨W3, hW3⟩ : ∃ W, W = (wr.alloc (.cells #[.int .u8 0, .int .u8 0, .int .u8 0, .int .u8 0] 31)).setRow wr.heap.size (cellsB m) := ⟨_, rfl⟩
              have hl2 := hr.lt
              have hl3 := hs.lt
              have hgs := hg.size
              have HX := Lib.hid (show Blk W3 wr.heap.size 31 m from hW3 ▸ hn.row m)
              have HR3 := Lib.hid (show Blk W3 (w.heap.size + 1) 28 z from hW3 ▸ (hr.grown gn (by simp)).rowNe (cellsB m) (show w.heap.size + 1 ≠ wr.heap.size by omega))
              have HO3 := Lib.hid (show Blk W3 g0 28 (iterU (cpF l) z j) from hW3 ▸ (hs.grown gn (by simp)).rowNe (cellsB m) (show g0 ≠ wr.heap.size by omega))
              have HG3 := Lib.hid (show w.grownBy W3 none from hW3 ▸ grownBy_old (grownBy_trans hg gn) (grownBy_setRow _ wr.heap.size (cellsB m)) (by omega))
              have HN := Lib.hid hn
              have HM := Lib.hid hm
              have HIX := Lib.hid hidx
              clear hn gn hr hs hg hm hidx hlen
              go_wp2_with (first | (refine wpList_index_row rfl _ _ _ rfl (cellsB l) .i64 (j : Int) (.agg (cellsB m)) rfl rfl HIX.out ?_) | (refine wpList_store_row rfl 31 _ _ rfl wr.heap.size (cellsB m) rfl rfl 31 _ HN.out (by rw [size_four', cellsB_size, hml]) (by rw [cellsB_size, cellsB_size, hml]; rfl) (cellsB_one _) ?_))
              rw [← hW3]
              clear hW3
              obtain ⟨q, hq⟩ : ∃ q, q = j / 4 := ⟨_, rfl⟩
              have t1 : (j : Int).tdiv 4 = (q : Int) := by rw [hq]; rfl
              have t1' : (j : Int) / 4 = (q : Int) := by omega
              have t5 : IntKind.i64.wrap (q : Int) = (q : Int) := i64_nat _ (by omega)
              have t3 : (q : Int) < 11 := by omega
              have hlen : (iterU (cpF l) z j).length = 176 := (iterU_len (cpF_len l) j).trans hzl
              have HLEN := Lib.hid hlen
              have HQ := Lib.hid hq
              clear hlen hq
              obtain hb | hb | hb | hb : j % 4 = 0 ∨ j % 4 = 1 ∨ j % 4 = 2 ∨ j % 4 = 3 := by omega
              · have t2 : (j : Int).tmod 4 = 0 := by rw [Int.tmod_eq_emod_of_nonneg (by omega)]; omega
                have tw : IntKind.i64.wrap 0 = 0 := rfl
                have tw' : IntKind.i64.wrap 0 = 0 := rfl
                have he : iterU (cpF l) z (j + 1) = spl (iterU (cpF l) z j) (q * 16) m := by
                  show spl (iterU (cpF l) z j) (j / 4 * 16 + 4 * (j % 4)) (at4 l (j * 4)) = _
                  rw [hb, HM.out, HQ.out]
                  try rfl
                have hcopy := copy4 W3.drew g0 (q * 16) 16 wr.heap.size _ _ m _ hml (by omega) HO3.out.dr (by rw [HLEN.out]; omega) HX.out.dr
                obtain ⟨W4, hW4⟩ : ∃ W4, W4 = W3.drew.setCells g0 (q * 16) (m.map bval) := ⟨_, rfl⟩
                rw [← hW4] at hcopy
                have HO4 := Lib.hid (show Blk W4 g0 28 (iterU (cpF l) z (j + 1)) from by rw [he, hW4]; exact HO3.out.dr.spl m)
                have HR4 := Lib.hid (show Blk W4 (w.heap.size + 1) 28 z from hW4 ▸ HR3.out.dr.splNe _ (by omega))
                have HG4 := Lib.hid (show w.grownBy W4 none from hW4 ▸ grownBy_old (grownBy_d1 HG3.out) (grownBy_spl _ _ _ _) (by omega))
                clear he hW4
                go_region_with fail
                all_goals
                  go_wp2_with fail
                  go_roundw
                  case rel => exact ⟨j + 1, by omega, by go_num, HR4.out, HO4.out, HG4.out⟩
                  case measure => simp [intOf]; omega
              · have t2 : (j : Int).tmod 4 = 1 := by rw [Int.tmod_eq_emod_of_nonneg (by omega)]; omega
                have tw : IntKind.i64.wrap 4 = 4 := rfl
                have tw' : IntKind.i64.wrap 1 = 1 := rfl
                have he : iterU (cpF l) z (j + 1) = spl (iterU (cpF l) z j) (q * 16 + 4) m := by
                  show spl (iterU (cpF l) z j) (j / 4 * 16 + 4 * (j % 4)) (at4 l (j * 4)) = _
                  rw [hb, HM.out, HQ.out]
                  try rfl
                have hcopy := copy4 W3.drew g0 (q * 16 + 4) 12 wr.heap.size _ _ m _ hml (by omega) HO3.out.dr (by rw [HLEN.out]; omega) HX.out.dr
                obtain ⟨W4, hW4⟩ : ∃ W4, W4 = W3.drew.setCells g0 (q * 16 + 4) (m.map bval) := ⟨_, rfl⟩
                rw [← hW4] at hcopy
                have HO4 := Lib.hid (show Blk W4 g0 28 (iterU (cpF l) z (j + 1)) from by rw [he, hW4]; exact HO3.out.dr.spl m)
                have HR4 := Lib.hid (show Blk W4 (w.heap.size + 1) 28 z from hW4 ▸ HR3.out.dr.splNe _ (by omega))
                have HG4 := Lib.hid (show w.grownBy W4 none from hW4 ▸ grownBy_old (grownBy_d1 HG3.out) (grownBy_spl _ _ _ _) (by omega))
                clear he hW4
                go_region_with fail
                all_goals
                  go_wp2_with fail
                  go_roundw
                  case rel => exact ⟨j + 1, by omega, by go_num, HR4.out, HO4.out, HG4.out⟩
                  case measure => simp [intOf]; omega
              · have t2 : (j : Int).tmod 4 = 2 := by rw [Int.tmod_eq_emod_of_nonneg (by omega)]; omega
                have tw : IntKind.i64.wrap 8 = 8 := rfl
                have tw' : IntKind.i64.wrap 2 = 2 := rfl
                have he : iterU (cpF l) z (j + 1) = spl (iterU (cpF l) z j) (q * 16 + 8) m := by
                  show spl (iterU (cpF l) z j) (j / 4 * 16 + 4 * (j % 4)) (at4 l (j * 4)) = _
                  rw [hb, HM.out, HQ.out]
                  try rfl
                have hcopy := copy4 W3.drew g0 (q * 16 + 8) 8 wr.heap.size _ _ m _ hml (by omega) HO3.out.dr (by rw [HLEN.out]; omega) HX.out.dr
                obtain ⟨W4, hW4⟩ : ∃ W4, W4 = W3.drew.setCells g0 (q * 16 + 8) (m.map bval) := ⟨_, rfl⟩
                rw [← hW4] at hcopy
                have HO4 := Lib.hid (show Blk W4 g0 28 (iterU (cpF l) z (j + 1)) from by rw [he, hW4]; exact HO3.out.dr.spl m)
                have HR4 := Lib.hid (show Blk W4 (w.heap.size + 1) 28 z from hW4 ▸ HR3.out.dr.splNe _ (by omega))
                have HG4 := Lib.hid (show w.grownBy W4 none from hW4 ▸ grownBy_old (grownBy_d1 HG3.out) (grownBy_spl _ _ _ _) (by omega))
                clear he hW4
                go_region_with fail
                all_goals
                  go_wp2_with fail
                  go_roundw
                  case rel => exact ⟨j + 1, by omega, by go_num, HR4.out, HO4.out, HG4.out⟩
                  case measure => simp [intOf]; omega
              · have t2 : (j : Int).tmod 4 = 3 := by rw [Int.tmod_eq_emod_of_nonneg (by omega)]; omega
                have tw : IntKind.i64.wrap 12 = 12 := rfl
                have tw' : IntKind.i64.wrap 3 = 3 := rfl
                have he : iterU (cpF l) z (j + 1) = spl (iterU (cpF l) z j) (q * 16 + 12) m := by
                  show spl (iterU (cpF l) z j) (j / 4 * 16 + 4 * (j % 4)) (at4 l (j * 4)) = _
                  rw [hb, HM.out, HQ.out]
                  try rfl
                have hcopy := copy4 W3.drew g0 (q * 16 + 12) 4 wr.heap.size _ _ m _ hml (by omega) HO3.out.dr (by rw [HLEN.out]; omega) HX.out.dr
                obtain ⟨W4, hW4⟩ : ∃ W4, W4 = W3.drew.setCells g0 (q * 16 + 12) (m.map bval) := ⟨_, rfl⟩
                rw [← hW4] at hcopy
                have HO4 := Lib.hid (show Blk W4 g0 28 (iterU (cpF l) z (j + 1)) from by rw [he, hW4]; exact HO3.out.dr.spl m)
                have HR4 := Lib.hid (show Blk W4 (w.heap.size + 1) 28 z from hW4 ▸ HR3.out.dr.splNe _ (by omega))
                have HG4 := Lib.hid (show w.grownBy W4 none from hW4 ▸ grownBy_old (grownBy_d1 HG3.out) (grownBy_spl _ _ _ _) (by omega))
                clear he hW4
                go_region_with fail
                all_goals
                  go_wp2_with fail
                  go_roundw
                  case rel => exact ⟨j + 1, by omega, by go_num, HR4.out, HO4.out, HG4.out⟩
                  case measure => simp [intOf]; omega
            · obtain rfl : j = 44 := by omega
              have e44 : ((44 : Nat) : Int) = 44 := rfl
              rw [e44]
              clear e44
              have hke := HKE.out
              rw [cp_end hl hzl, ← hke] at hs
              have HO5 := Lib.hid hs
              have HR5 := Lib.hid hr
              have HG5 := Lib.hid hg
              have hkl : kk.length = 176 := by rw [hke]; exact hl
              clear hs hr hg
              go_wp2_with (first | (refine wpList_load_row rfl 28 _ rfl g0 rfl 28 (cellsB kk) (0, 0) _ HO5.out Try.underlying28 rfl (by rw [size_keys, cellsB_size, hkl]) ?_) | (refine wpList_store_row rfl 28 _ _ rfl (w.heap.size + 1) (cellsB kk) rfl rfl 28 _ HR5.out (by rw [size_keys, cellsB_size, hkl]) (by rw [cellsB_size, cellsB_size, hkl, hzl]) (cellsB_one _) ?_))
              refine bodyPost_ret (v := .agg (cellsB kk)) (results_cell_row rfl _ _ (w.heap.size + 1) 28 (cellsB kk) (0, 0) _ rfl (setRow_heap _ _ _ _ _ _ HR5.out) Try.underlying28 rfl (by rw [size_keys, cellsB_size, hkl])) rfl ⟨rfl, ?_⟩
              exact grownBy_old HG5.out (grownBy_setRow _ _ _) (by omega)

end Go.Proofs.Ytlnmglddialhjaa
