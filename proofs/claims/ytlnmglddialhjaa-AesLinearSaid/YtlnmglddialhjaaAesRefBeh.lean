/- aes: the document's rounds. -/
import Derived.Test.YtlnmglddialhjaaAesBehind
import Derived.Test.YtlnmglddialhjaaAesMore
import Derived.Test.YtlnmglddialhjaaAesRefMix
import Derived.Test.YtlnmglddialhjaaAesRefSched
import Derived.Test.YtlnmglddialhjaaRow
namespace Go.Proofs.Ytlnmglddialhjaa
open Go.RowKit

theorem block_info : ∃ i, Try.prog.info? 27 = some i ∧ i.zero = some (.agg (cellsB z16)) ∧ i.size = 16 := ⟨(Try.prog.info? 27).getD default, by kernel_rfl, by kernel_rfl, by kernel_rfl⟩
theorem state_info : ∃ i, Try.prog.info? 33 = some i ∧ i.zero = some (.agg (cellsB z16)) ∧ i.size = 16 := ⟨(Try.prog.info? 33).getD default, by kernel_rfl, by kernel_rfl, by kernel_rfl⟩
theorem keysT_info : ∃ i, Try.prog.info? 28 = some i ∧ i.zero = some (.agg (cellsB z176)) ∧ i.size = 176 := ⟨(Try.prog.info? 28).getD default, by kernel_rfl, by kernel_rfl, by kernel_rfl⟩
theorem size_keysT : (Try.prog.info? 28).map (·.size) = some 176 := by kernel_rfl
theorem cells_agg (l : List UInt8) : (Value.agg (cellsB l)).cells = cellsB l := rfl
theorem Blk.key {w : World} {g : Nat} {kk : List UInt8} (h : Blk w g 28 kk) (n : Nat) : w.rangeAt g (n * 16) ((keyAt kk n).map bval) := fun j v hj => by
  have h2 := h.range (n * 16 + j) v (by
    have hj' := hj
    unfold keyAt at hj'
    rw [List.map_take, List.map_drop, List.getElem?_take] at hj'
    split at hj'
    · rw [List.getElem?_drop] at hj'; exact hj'
    · cases hj')
  rw [Nat.zero_add] at h2
  exact h2
/-- what stands while the document works: the block in hand, the answer's room, the keys -/
def RS (w0 : World) (gb g6 g7 : Nat) (kk x : List UInt8) (w : World) : Prop := w0.grownBy w none ∧ Blk w gb 27 x ∧ Blk w g6 27 z16 ∧ Blk w g7 28 kk
section
variable {w0 w w' : World} {gb g6 g7 : Nat} {kk x : List UInt8}
theorem RS.grown (h : RS w0 gb g6 g7 kk x w) (hg : w.grownBy w' none) : RS w0 gb g6 g7 kk x w' := ⟨grownBy_trans h.1 hg, h.2.1.grown hg (by simp), h.2.2.1.grown hg (by simp), h.2.2.2.grown hg (by simp)⟩
theorem RS.far {g : Nat} (h : RS w0 gb g6 g7 kk x w) (hg : w.grownBy w' (some g)) (hw : w0.heap.size ≤ g) (h1 : gb ≠ g) (h2 : g6 ≠ g) (h3 : g7 ≠ g) : RS w0 gb g6 g7 kk x w' :=
  ⟨grownBy_old h.1 hg hw, h.2.1.grown hg (by simpa using h1.symm), h.2.2.1.grown hg (by simpa using h2.symm), h.2.2.2.grown hg (by simpa using h3.symm)⟩
theorem RS.lt (h : RS w0 gb g6 g7 kk x w) : gb < w.heap.size ∧ g6 < w.heap.size ∧ g7 < w.heap.size := ⟨h.2.1.lt, h.2.2.1.lt, h.2.2.2.lt⟩
theorem RS.row (h : RS w0 gb g6 g7 kk x w) (y : List UInt8) (hd : w0.heap.size ≤ gb ∧ gb < g6 ∧ g6 < g7) : RS w0 gb g6 g7 kk y (w.setRow gb (cellsB y)) :=
  ⟨grownBy_old h.1 (grownBy_setRow _ _ _) hd.1, h.2.1.row y, h.2.2.1.rowNe _ (by omega), h.2.2.2.rowNe _ (by omega)⟩
end

set_option maxRecDepth 100000 in
set_option maxHeartbeats 4000000 in
theorem refBehind_n (k b : List UInt8) (R : Nat) (hkl : k.length = 16) (hb : b.length = 16) (hR : R ≤ 10) (w : World) :
    Calls Try.prog 42 #[aggB k, aggB b, .int .i64 (R : Int)] w fun e w' => e = .returned (aggB (encS (keysL k) b R)) ∧ w.grownBy w' none := by
  have hsched := fun w => refSchedule_n k hkl w
  have hk := keysL_len k
  obtain ⟨kk, hkk⟩ : ∃ kk, kk = keysL k := ⟨_, rfl⟩
  rw [← hkk] at hsched hk ⊢
  obtain ⟨ib, hib, hibz, hibs⟩ := block_info
  obtain ⟨is, his, hisz, hiss⟩ := state_info
  obtain ⟨ik, hik, hikz, hiks⟩ := keysT_info
  have IB := Lib.hid hib
  have IBZ := Lib.hid hibz
  have IS := Lib.hid his
  have ISZ := Lib.hid hisz
  have ISS := Lib.hid hiss
  have IK := Lib.hid hik
  have IKZ := Lib.hid hikz
  have IKS := Lib.hid hiks
  clear hib hibz hibs his hisz hiss hik hikz hiks hkk
  have HSCH := Lib.hid hsched
  clear hsched
  unfold aggB at HSCH ⊢
  have hk0 := keyAt_len hk (n := 0) (by omega)
  obtain ⟨k0, hk0e⟩ : ∃ q, q = keyAt kk 0 := ⟨_, rfl⟩
  rw [← hk0e] at hk0
  have HK0 := Lib.hid hk0e
  have hi3 : (Try.prog.info? 27).map (·.size) = some (k0.map bval).length := by rw [size_block, List.length_map, hk0]
  have HX0 := Lib.hid (fun w1 : World => refXor_n b k0 hb hk0 w1)
  unfold aggB at HX0
  have HEL0 := Lib.hid (fun n hn => encS_len hk hb n hn)
  obtain ⟨E, hE⟩ : ∃ E : Nat → List UInt8, E = encS kk b := ⟨_, rfl⟩
  have e0 : E 0 = xorL b k0 := by rw [hE, hk0e]; rfl
  have hEl : ∀ n, n ≤ 10 → (E n).length = 16 := fun n hn => by rw [hE]; exact encS_len hk hb n hn
  have hEs : ∀ n, E (n + 1) = xorL (trL (if n + 1 < 10 then mixL [2, 3, 1, 1] (shL ((trL (E n)).map asub)) else shL ((trL (E n)).map asub))) (keyAt kk (n + 1)) := fun n => by rw [hE]; rfl
  rw [← hE]
  rw [← e0] at HX0
  have HES := Lib.hid hEs
  have HEL := Lib.hid hEl
  have hE0l := hEl 0 (by omega)
  clear hE hEs hEl e0 HEL0 hk0e
  go_enter Try.func42, Try.ntmps42
  go_wp2_with (first | (refine wpList_boxed (T := 26) rfl rfl (cellsB k) rfl ?_; intro wa hsa hga hra; have HSa := Lib.hid hsa; have HGa := Lib.hid hga; have HRa := Lib.hid (show Blk wa w.heap.size 26 k from hra); clear hsa hga hra) | (refine wpList_boxed (T := 27) rfl rfl (cellsB b) rfl ?_; intro wb hsb hgb hrb; have HSb := Lib.hid hsb; have HGb := Lib.hid (grownBy_trans HGa.out hgb); have HKb := Lib.hid (HRa.out.grown hgb (by simp)); have HRb := Lib.hid (show Blk wb wa.heap.size 27 b from hrb); clear hsb hgb hrb) | (refine wpList_made rfl rfl IB.out IBZ.out ?_; intro wc hsc hgc hrc; have HGc := Lib.hid (grownBy_trans HGb.out hgc); have HKc := Lib.hid (HKb.out.grown hgc (by simp)); have HBc := Lib.hid (HRb.out.grown hgc (by simp)); have HRc := Lib.hid (show Blk wc wb.heap.size 27 z16 from hrc); clear hsc hgc hrc) | (refine wpList_load_row rfl 26 _ rfl (w.heap.size) rfl 26 (cellsB k) (0, 0) _ HKc.out Try.underlying26 rfl (by rw [size_key, cellsB_size, hkl]) ?_))
  refine (HSCH.out _).mono ?_
  rintro e w1 ⟨rfl, hg1⟩
  have HG1 := Lib.hid (grownBy_trans HGc.out hg1)
  have HB1 := Lib.hid (HBc.out.grown hg1 (by simp))
  have HR1 := Lib.hid (HRc.out.grown hg1 (by simp))
  have hd1 : w.heap.size ≤ wa.heap.size ∧ wa.heap.size < wb.heap.size ∧ wb.heap.size < w1.heap.size := by
    have h1 := HSa.out
    have h2 := HSb.out
    have h3 := HR1.out.lt
    omega
  have HD := Lib.hid hd1
  clear hg1 hd1
  go_wp2_with (first | (refine wpList_fresh rfl rfl rfl rfl rfl IK.out IKZ.out (by rw [IKS.out, cells_agg, cellsB_size, z176_len]) (cellsB kk) rfl rfl (by rw [cells_agg, cellsB_size, cellsB_size, z176_len, hk]) (cellsB_one _) ?_; intro w2 hs2 hg2 hr2; clear hs2; have HS2 := Lib.hid (show RS w wa.heap.size wb.heap.size w1.heap.size kk b w2 from ⟨grownBy_trans HG1.out hg2, HB1.out.grown hg2 (by simp), HR1.out.grown hg2 (by simp), hr2⟩); clear hg2 hr2) | (refine wpList_load_row rfl 27 _ rfl (wa.heap.size) rfl 27 (cellsB b) (0, 0) _ HS2.out.2.1 Try.underlying27 rfl (by rw [size_block, cellsB_size, hb]) ?_) | (refine wpList_load_mid rfl 27 _ rfl w1.heap.size 0 rfl (k0.map bval) _ (by have h := Blk.key HS2.out.2.2.2 0; rw [← HK0.out, Nat.zero_mul] at h; exact h) Try.underlying27 rfl hi3 ?_))
  refine (HX0.out _).mono ?_
  rintro e w3 ⟨rfl, hg3⟩
  have HS3 := Lib.hid (HS2.out.grown hg3)
  clear hg3
  obtain ⟨gb, hgb⟩ : ∃ g, g = wa.heap.size := ⟨_, rfl⟩
  obtain ⟨g6, hg6⟩ : ∃ g, g = wb.heap.size := ⟨_, rfl⟩
  obtain ⟨g7, hg7⟩ : ∃ g, g = w1.heap.size := ⟨_, rfl⟩
  rw [← hgb, ← hg6, ← hg7] at HS3 HD
  rw [← hgb, ← hg6, ← hg7]
  clear hgb hg6 hg7 HS2 HB1 HR1 HG1 HX0 HSCH
  go_wp2_with (first | (refine wpList_putrow rfl rfl (gb) rfl (cellsB (E 0)) rfl HS3.out.2.1 (by rw [size_block, cellsB_size, hE0l]) (by rw [cellsB_size, cellsB_size, hE0l, hb]) (cellsB_one _) ?_; intro w4 hgP hrP; have HS4 := Lib.hid (show RS w gb g6 g7 kk (E 0) w4 from ⟨grownBy_old HS3.out.1 hgP HD.out.1, hrP, HS3.out.2.2.1.grown hgP (by have := HD.out; simp; omega), HS3.out.2.2.2.grown hgP (by have := HD.out; simp; omega)⟩); clear hgP hrP))
  go_loopw [8] (fun vi wr => ∃ n : Nat, 1 ≤ n ∧ n ≤ R + 1 ∧ vi = .int .i64 n ∧ RS w gb g6 g7 kk (E (n - 1)) wr) (fun vi _ => 12 - (intOf vi).toNat)
  case atStart => exact ⟨1, by omega, by omega, rfl, HS4.out⟩
  case round =>
    clear HS3 HS4
    obtain ⟨n, hn1, hn, rfl, hS⟩ := hrel
    by_cases hlt : n ≤ R
    · have hES := HES.out (n - 1)
      rw [show n - 1 + 1 = n by omega] at hES
      have hxl := HEL.out (n - 1) (by omega)
      obtain ⟨x, hx⟩ : ∃ x, x = E (n - 1) := ⟨_, rfl⟩
      rw [← hx] at hES hxl hS
      obtain ⟨s1, hs1⟩ : ∃ s, s = shL ((trL x).map asub) := ⟨_, rfl⟩
      have hs1l : s1.length = 16 := by rw [hs1]; exact shL_len (map_len asub (trL_len hxl))
      rw [← hs1] at hES
      obtain ⟨kn, hkn⟩ : ∃ q, q = keyAt kk n := ⟨_, rfl⟩
      have hknl : kn.length = 16 := by rw [hkn]; exact keyAt_len hk (by omega)
      rw [← hkn] at hES
      obtain ⟨s0, hs0⟩ : ∃ s, s = (trL x).map asub := ⟨_, rfl⟩
      have hs0l : s0.length = 16 := by rw [hs0]; exact map_len asub (trL_len hxl)
      have HSB := Lib.hid (fun w1 : World => by have h := refSubAll_n (trL x) (trL_len hxl) w1; rw [← hs0] at h; exact h)
      rw [← hs0] at hs1
      have HSH := Lib.hid (fun w1 : World => by have h := refShift_n s0 hs0l w1; rw [← hs1] at h; exact h)
      have HESN := Lib.hid hES
      have HSX := Lib.hid hS
      have HKN := Lib.hid hkn
      have n11 : (n : Int) < 11 := by omega
      have hi2' : (Try.prog.info? 27).map (·.size) = some kn.length := by rw [size_block, hknl]
      clear hES hS hx hs1 hkn hs0
      go_wp2_with (first | (refine wpList_load_row rfl 27 _ rfl (gb) rfl 27 (cellsB x) (0, 0) _ HSX.out.2.1 Try.underlying27 rfl (by rw [size_block, cellsB_size, hxl]) ?_))
      refine (refSpread_n x hxl _).mono ?_
      rintro e w1 ⟨rfl, hg1⟩
      have HSY := Lib.hid (HSX.out.grown hg1)
      clear HSX hg1
      unfold aggB
      go_wp2_with fail
      unfold aggB at HSB HSH
      refine (HSB.out _).mono ?_
      rintro e w2 ⟨rfl, hg2⟩
      have HSZ := Lib.hid (HSY.out.grown hg2)
      clear HSY hg2 HSB
      go_wp2_with (first | (refine wpList_fresh rfl rfl rfl rfl rfl IS.out ISZ.out (by rw [ISS.out, cells_agg, cellsB_size]; rfl) (cellsB s0) rfl rfl (by rw [cells_agg, cellsB_size, cellsB_size, hs0l]; rfl) (cellsB_one _) ?_; intro w3 hs3 hg3 hr3; clear hs3; have HS3 := Lib.hid (HSZ.out.grown hg3); have HB3 := Lib.hid (show Blk w3 w2.heap.size 33 s0 from hr3); clear hg3 hr3) | (refine wpList_load_row rfl 33 _ rfl (w2.heap.size) rfl 33 (cellsB s0) (0, 0) _ HB3.out Try.underlying33 rfl (by rw [size_state, cellsB_size, hs0l]) ?_))
      refine (HSH.out _).mono ?_
      rintro e w4 ⟨rfl, hg4⟩
      have HS4 := Lib.hid (HS3.out.grown hg4)
      have HB4 := Lib.hid (HB3.out.grown hg4 (by simp))
      have hgs : gb < w2.heap.size ∧ g6 < w2.heap.size ∧ g7 < w2.heap.size := HSZ.out.lt
      have HGS := Lib.hid hgs
      have hws : w.heap.size ≤ w2.heap.size := HSZ.out.1.size
      have HWS := Lib.hid hws
      clear hg4 hgs HS3 HB3 HSZ HSH hws
      obtain ⟨gs, hgs⟩ : ∃ g, g = w2.heap.size := ⟨_, rfl⟩
      rw [← hgs] at HB4 HGS HWS
      rw [← hgs]
      clear hgs
      by_cases h10 : n < 10
      · obtain ⟨m1, hm1⟩ : ∃ s, s = mixL [2, 3, 1, 1] s1 := ⟨_, rfl⟩
        have hm1l : m1.length = 16 := by rw [hm1]; exact mixL_len rfl hs1l
        have HQ := Lib.hid (fun w1 : World => by have h := refMix_n s1 hs1l w1; rw [← hm1] at h; exact h)
        unfold aggB at HQ
        have hEN : E n = xorL (trL m1) kn := by rw [HESN.out, if_pos h10, hm1]
        have HEN := Lib.hid hEN
        clear hm1 hEN
        have h10' : (n : Int) < 10 := by omega
        have h10d : decide ((n : Int) < 10) = true := by simp; omega
        go_wp2_with (first | (refine wpList_putrow rfl rfl (gs) rfl (cellsB s1) rfl HB4.out (by rw [size_state, cellsB_size, hs1l]) (by rw [cellsB_size, cellsB_size, hs1l, hs0l]) (cellsB_one _) ?_; intro w5 hgP hrP; have HS5 := Lib.hid (HS4.out.far hgP HWS.out (by have := HGS.out; omega) (by have := HGS.out; omega) (by have := HGS.out; omega)); have HB5 := Lib.hid (show Blk w5 gs 33 s1 from hrP); clear hgP hrP) | (refine wpList_load_row rfl 33 _ rfl (gs) rfl 33 (cellsB s1) (0, 0) _ HB5.out Try.underlying33 rfl (by rw [size_state, cellsB_size, hs1l]) ?_))
        refine (HQ.out _).mono ?_
        rintro e w6 ⟨rfl, hg6'⟩
        have HS6 := Lib.hid (HS5.out.grown hg6')
        have HB6 := Lib.hid (HB5.out.grown hg6' (by simp))
        clear hg6' HS4 HB4 HS5 HB5
        go_upto_region 10 with (first | (refine wpList_putrow rfl rfl (gs) rfl (cellsB m1) rfl HB6.out (by rw [size_state, cellsB_size, hm1l]) (by rw [cellsB_size, cellsB_size, hm1l, hs1l]) (cellsB_one _) ?_; intro w5 hgP hrP; have HSx := Lib.hid (HS6.out.far hgP HWS.out (by have := HGS.out; omega) (by have := HGS.out; omega) (by have := HGS.out; omega)); have HBx := Lib.hid (show Blk w5 gs 33 m1 from hrP); clear hgP hrP))
        have HGA := Lib.hid (fun w1 : World => refGather_n m1 hm1l w1)
        have HWI := Lib.hid (fun w1 : World => refXor_n (trL m1) kn (trL_len hm1l) hknl w1)
        have hi4 : (Try.prog.info? 33).map (·.size) = some m1.length := by rw [size_state, hm1l]
        refine wp_regionT (fun w' => RS w gb g6 g7 kk x w' ∧ Blk w' gs 33 m1) 6 (by kernel_rfl) ⟨HSx.out.grown (grownBy_d1 (World.grownBy.refl _ _)), HBx.out.dr⟩ ?_
        refine wpT_take 0 (oi := { dst := some 30, op := Op.load 33 (Operand.tmp 9), type := 33, pos := "ref.go:168", after := #[], guard := none }) (oL := { dst := none, op := Op.store 27 (Operand.tmp 4) (Operand.tmp 35), type := 0, pos := "ref.go:168", after := #[{ on := 5, ground := Ground.data }, { on := 5, ground := Ground.chain }, { on := 0, ground := Ground.phase }, { on := 1, ground := Ground.phase }, { on := 2, ground := Ground.phase }, { on := 3, ground := Ground.phase }, { on := 4, ground := Ground.phase }, { on := 5, ground := Ground.phase }], guard := none }) rfl rfl rfl (by kernel_rfl) (by kernel_rfl) (by kernel_rfl) (by kernel_rfl) (by kernel_rfl) (fun _ _ _ h => h) (YS.rowM (by rfl) _ _ rfl gs 0 rfl m1 _ (fun _ h => h.2.range) Try.underlying33 rfl hi4) ?_
        simp only [Act.put, List.setIfInBounds_toArray, List.set_cons_zero, List.set_cons_succ]
        refine wpT_take 1 (v := .agg (cellsB (trL m1))) (oi := { dst := some 31, op := Op.call { callee := Callee.value (Operand.func 27), args := #[Operand.tmp 30], argTypes := #[33] }, type := 27, pos := "ref.go:168", after := #[{ on := 0, ground := Ground.data }], guard := none }) (oL := { dst := none, op := Op.store 27 (Operand.tmp 4) (Operand.tmp 35), type := 0, pos := "ref.go:168", after := #[{ on := 5, ground := Ground.data }, { on := 5, ground := Ground.chain }, { on := 0, ground := Ground.phase }, { on := 1, ground := Ground.phase }, { on := 2, ground := Ground.phase }, { on := 3, ground := Ground.phase }, { on := 4, ground := Ground.phase }, { on := 5, ground := Ground.phase }], guard := none }) rfl rfl rfl (by kernel_rfl) (by kernel_rfl) (by kernel_rfl) (by kernel_rfl) (by kernel_rfl) (fun _ _ _ h => h) (YS.grow (f := 27) (args := #[.agg (cellsB m1)]) (by rfl) (fun w => by go_simp) (fun _ _ h hg => ⟨h.1.grown hg, h.2.grown hg (by simp)⟩) HGA.out) ?_
        simp only [Act.put, List.setIfInBounds_toArray, List.set_cons_zero, List.set_cons_succ]
        refine wpT_take 2 (oi := { dst := some 32, op := Op.move (Operand.tmp 8), type := 3, pos := "ref.go:168", after := #[], guard := none }) (oL := { dst := none, op := Op.store 27 (Operand.tmp 4) (Operand.tmp 35), type := 0, pos := "ref.go:168", after := #[{ on := 5, ground := Ground.data }, { on := 5, ground := Ground.chain }, { on := 0, ground := Ground.phase }, { on := 1, ground := Ground.phase }, { on := 2, ground := Ground.phase }, { on := 3, ground := Ground.phase }, { on := 4, ground := Ground.phase }, { on := 5, ground := Ground.phase }], guard := none }) rfl rfl rfl (by kernel_rfl) (by kernel_rfl) (by kernel_rfl) (by kernel_rfl) (by kernel_rfl) (fun _ _ _ h => h) (YS.val (by rfl) (fun _ _ => rfl)) ?_
        simp only [Act.put, List.setIfInBounds_toArray, List.set_cons_zero, List.set_cons_succ]
        refine wpT_take 3 (v := .pointer (some ⟨g7, n * 16, none⟩)) (oi := { dst := some 33, op := Op.indexAddr 28 (Operand.tmp 7) (Operand.tmp 32), type := 0, pos := "ref.go:168", after := #[{ on := 2, ground := Ground.data }], guard := none }) (oL := { dst := none, op := Op.store 27 (Operand.tmp 4) (Operand.tmp 35), type := 0, pos := "ref.go:168", after := #[{ on := 5, ground := Ground.data }, { on := 5, ground := Ground.chain }, { on := 0, ground := Ground.phase }, { on := 1, ground := Ground.phase }, { on := 2, ground := Ground.phase }, { on := 3, ground := Ground.phase }, { on := 4, ground := Ground.phase }, { on := 5, ground := Ground.phase }], guard := none }) rfl rfl rfl (by kernel_rfl) (by kernel_rfl) (by kernel_rfl) (by kernel_rfl) (by kernel_rfl) (fun _ _ _ h => h) (YS.val (by rfl) (fun w _ => by go_simp)) ?_
        simp only [Act.put, List.setIfInBounds_toArray, List.set_cons_zero, List.set_cons_succ]
        refine wpT_take 4 (oi := { dst := some 34, op := Op.load 27 (Operand.tmp 33), type := 27, pos := "ref.go:168", after := #[{ on := 3, ground := Ground.data }], guard := none }) (oL := { dst := none, op := Op.store 27 (Operand.tmp 4) (Operand.tmp 35), type := 0, pos := "ref.go:168", after := #[{ on := 5, ground := Ground.data }, { on := 5, ground := Ground.chain }, { on := 0, ground := Ground.phase }, { on := 1, ground := Ground.phase }, { on := 2, ground := Ground.phase }, { on := 3, ground := Ground.phase }, { on := 4, ground := Ground.phase }, { on := 5, ground := Ground.phase }], guard := none }) rfl rfl rfl (by kernel_rfl) (by kernel_rfl) (by kernel_rfl) (by kernel_rfl) (by kernel_rfl) (fun _ _ _ h => h) (YS.rowM (by rfl) _ _ rfl g7 (n * 16) rfl kn _ (fun _ h => by rw [HKN.out]; exact Blk.key h.1.2.2.2 n) Try.underlying27 rfl hi2') ?_
        simp only [Act.put, List.setIfInBounds_toArray, List.set_cons_zero, List.set_cons_succ]
        refine wpT_take 5 (v := .agg (cellsB (xorL (trL m1) kn))) (oi := { dst := some 35, op := Op.call { callee := Callee.value (Operand.func 61), args := #[Operand.tmp 31, Operand.tmp 34], argTypes := #[27, 27] }, type := 27, pos := "ref.go:168", after := #[{ on := 1, ground := Ground.data }, { on := 4, ground := Ground.data }, { on := 1, ground := Ground.chain }], guard := none }) (oL := { dst := none, op := Op.store 27 (Operand.tmp 4) (Operand.tmp 35), type := 0, pos := "ref.go:168", after := #[{ on := 5, ground := Ground.data }, { on := 5, ground := Ground.chain }, { on := 0, ground := Ground.phase }, { on := 1, ground := Ground.phase }, { on := 2, ground := Ground.phase }, { on := 3, ground := Ground.phase }, { on := 4, ground := Ground.phase }, { on := 5, ground := Ground.phase }], guard := none }) rfl rfl rfl (by kernel_rfl) (by kernel_rfl) (by kernel_rfl) (by kernel_rfl) (by kernel_rfl) (fun _ _ _ h => h) (YS.grow (f := 61) (args := #[.agg (cellsB (trL m1)), .agg (cellsB kn)]) (by rfl) (fun w => by go_simp) (fun _ _ h hg => ⟨h.1.grown hg, h.2.grown hg (by simp)⟩) HWI.out) ?_
        simp only [Act.put, List.setIfInBounds_toArray, List.set_cons_zero, List.set_cons_succ]
        refine wpT_last rfl (by kernel_rfl) (by kernel_rfl) (by rfl) (fun w7 hS7 K hK => ?_)
        have hxl2 := xorL_len (trL_len hm1l) hknl
        refine wp_store_row 27 _ _ rfl gb (cellsB (xorL (trL m1) kn)) rfl rfl 27 _ hS7.1.2.1 (by rw [size_block, cellsB_size, hxl2]) (by rw [cellsB_size, cellsB_size, hxl, hxl2]) (cellsB_one _) (hK _ _ ?_)
        have hS8 := hS7.1.row (xorL (trL m1) kn) HD.out
        rw [← HEN.out] at hS8 ⊢
        obtain ⟨W8, hW8⟩ : ∃ W, W = w7.setRow gb (cellsB (E n)) := ⟨_, rfl⟩
        rw [← hW8] at hS8 ⊢
        have HS8 := Lib.hid hS8
        clear hS8 hW8 hS7
        go_wp2_with fail
        go_roundw
        case rel => exact ⟨n + 1, by omega, by omega, by go_num, by rw [show n + 1 - 1 = n by omega]; exact HS8.out⟩
        case measure => simp [intOf]; omega

      · have hEN : E n = xorL (trL s1) kn := by rw [HESN.out, if_neg h10]
        have HEN := Lib.hid hEN
        clear hEN
        have h10' : ¬ (n : Int) < 10 := by omega
        have h10d : decide ((n : Int) < 10) = false := by simp; omega
        go_upto_region 10 with (first | (refine wpList_putrow rfl rfl (gs) rfl (cellsB s1) rfl HB4.out (by rw [size_state, cellsB_size, hs1l]) (by rw [cellsB_size, cellsB_size, hs1l, hs0l]) (cellsB_one _) ?_; intro w5 hgP hrP; have HSx := Lib.hid (HS4.out.far hgP HWS.out (by have := HGS.out; omega) (by have := HGS.out; omega) (by have := HGS.out; omega)); have HBx := Lib.hid (show Blk w5 gs 33 s1 from hrP); clear hgP hrP))
        have HGA := Lib.hid (fun w1 : World => refGather_n s1 hs1l w1)
        have HWI := Lib.hid (fun w1 : World => refXor_n (trL s1) kn (trL_len hs1l) hknl w1)
        have hi4 : (Try.prog.info? 33).map (·.size) = some s1.length := by rw [size_state, hs1l]
        refine wp_regionT (fun w' => RS w gb g6 g7 kk x w' ∧ Blk w' gs 33 s1) 6 (by kernel_rfl) ⟨HSx.out.grown (grownBy_d1 (World.grownBy.refl _ _)), HBx.out.dr⟩ ?_
        refine wpT_take 0 (oi := { dst := some 30, op := Op.load 33 (Operand.tmp 9), type := 33, pos := "ref.go:168", after := #[], guard := none }) (oL := { dst := none, op := Op.store 27 (Operand.tmp 4) (Operand.tmp 35), type := 0, pos := "ref.go:168", after := #[{ on := 5, ground := Ground.data }, { on := 5, ground := Ground.chain }, { on := 0, ground := Ground.phase }, { on := 1, ground := Ground.phase }, { on := 2, ground := Ground.phase }, { on := 3, ground := Ground.phase }, { on := 4, ground := Ground.phase }, { on := 5, ground := Ground.phase }], guard := none }) rfl rfl rfl (by kernel_rfl) (by kernel_rfl) (by kernel_rfl) (by kernel_rfl) (by kernel_rfl) (fun _ _ _ h => h) (YS.rowM (by rfl) _ _ rfl gs 0 rfl s1 _ (fun _ h => h.2.range) Try.underlying33 rfl hi4) ?_
        simp only [Act.put, List.setIfInBounds_toArray, List.set_cons_zero, List.set_cons_succ]
        refine wpT_take 1 (v := .agg (cellsB (trL s1))) (oi := { dst := some 31, op := Op.call { callee := Callee.value (Operand.func 27), args := #[Operand.tmp 30], argTypes := #[33] }, type := 27, pos := "ref.go:168", after := #[{ on := 0, ground := Ground.data }], guard := none }) (oL := { dst := none, op := Op.store 27 (Operand.tmp 4) (Operand.tmp 35), type := 0, pos := "ref.go:168", after := #[{ on := 5, ground := Ground.data }, { on := 5, ground := Ground.chain }, { on := 0, ground := Ground.phase }, { on := 1, ground := Ground.phase }, { on := 2, ground := Ground.phase }, { on := 3, ground := Ground.phase }, { on := 4, ground := Ground.phase }, { on := 5, ground := Ground.phase }], guard := none }) rfl rfl rfl (by kernel_rfl) (by kernel_rfl) (by kernel_rfl) (by kernel_rfl) (by kernel_rfl) (fun _ _ _ h => h) (YS.grow (f := 27) (args := #[.agg (cellsB s1)]) (by rfl) (fun w => by go_simp) (fun _ _ h hg => ⟨h.1.grown hg, h.2.grown hg (by simp)⟩) HGA.out) ?_
        simp only [Act.put, List.setIfInBounds_toArray, List.set_cons_zero, List.set_cons_succ]
        refine wpT_take 2 (oi := { dst := some 32, op := Op.move (Operand.tmp 8), type := 3, pos := "ref.go:168", after := #[], guard := none }) (oL := { dst := none, op := Op.store 27 (Operand.tmp 4) (Operand.tmp 35), type := 0, pos := "ref.go:168", after := #[{ on := 5, ground := Ground.data }, { on := 5, ground := Ground.chain }, { on := 0, ground := Ground.phase }, { on := 1, ground := Ground.phase }, { on := 2, ground := Ground.phase }, { on := 3, ground := Ground.phase }, { on := 4, ground := Ground.phase }, { on := 5, ground := Ground.phase }], guard := none }) rfl rfl rfl (by kernel_rfl) (by kernel_rfl) (by kernel_rfl) (by kernel_rfl) (by kernel_rfl) (fun _ _ _ h => h) (YS.val (by rfl) (fun _ _ => rfl)) ?_
        simp only [Act.put, List.setIfInBounds_toArray, List.set_cons_zero, List.set_cons_succ]
        refine wpT_take 3 (v := .pointer (some ⟨g7, n * 16, none⟩)) (oi := { dst := some 33, op := Op.indexAddr 28 (Operand.tmp 7) (Operand.tmp 32), type := 0, pos := "ref.go:168", after := #[{ on := 2, ground := Ground.data }], guard := none }) (oL := { dst := none, op := Op.store 27 (Operand.tmp 4) (Operand.tmp 35), type := 0, pos := "ref.go:168", after := #[{ on := 5, ground := Ground.data }, { on := 5, ground := Ground.chain }, { on := 0, ground := Ground.phase }, { on := 1, ground := Ground.phase }, { on := 2, ground := Ground.phase }, { on := 3, ground := Ground.phase }, { on := 4, ground := Ground.phase }, { on := 5, ground := Ground.phase }], guard := none }) rfl rfl rfl (by kernel_rfl) (by kernel_rfl) (by kernel_rfl) (by kernel_rfl) (by kernel_rfl) (fun _ _ _ h => h) (YS.val (by rfl) (fun w _ => by go_simp)) ?_
        simp only [Act.put, List.setIfInBounds_toArray, List.set_cons_zero, List.set_cons_succ]
        refine wpT_take 4 (oi := { dst := some 34, op := Op.load 27 (Operand.tmp 33), type := 27, pos := "ref.go:168", after := #[{ on := 3, ground := Ground.data }], guard := none }) (oL := { dst := none, op := Op.store 27 (Operand.tmp 4) (Operand.tmp 35), type := 0, pos := "ref.go:168", after := #[{ on := 5, ground := Ground.data }, { on := 5, ground := Ground.chain }, { on := 0, ground := Ground.phase }, { on := 1, ground := Ground.phase }, { on := 2, ground := Ground.phase }, { on := 3, ground := Ground.phase }, { on := 4, ground := Ground.phase }, { on := 5, ground := Ground.phase }], guard := none }) rfl rfl rfl (by kernel_rfl) (by kernel_rfl) (by kernel_rfl) (by kernel_rfl) (by kernel_rfl) (fun _ _ _ h => h) (YS.rowM (by rfl) _ _ rfl g7 (n * 16) rfl kn _ (fun _ h => by rw [HKN.out]; exact Blk.key h.1.2.2.2 n) Try.underlying27 rfl hi2') ?_
        simp only [Act.put, List.setIfInBounds_toArray, List.set_cons_zero, List.set_cons_succ]
        refine wpT_take 5 (v := .agg (cellsB (xorL (trL s1) kn))) (oi := { dst := some 35, op := Op.call { callee := Callee.value (Operand.func 61), args := #[Operand.tmp 31, Operand.tmp 34], argTypes := #[27, 27] }, type := 27, pos := "ref.go:168", after := #[{ on := 1, ground := Ground.data }, { on := 4, ground := Ground.data }, { on := 1, ground := Ground.chain }], guard := none }) (oL := { dst := none, op := Op.store 27 (Operand.tmp 4) (Operand.tmp 35), type := 0, pos := "ref.go:168", after := #[{ on := 5, ground := Ground.data }, { on := 5, ground := Ground.chain }, { on := 0, ground := Ground.phase }, { on := 1, ground := Ground.phase }, { on := 2, ground := Ground.phase }, { on := 3, ground := Ground.phase }, { on := 4, ground := Ground.phase }, { on := 5, ground := Ground.phase }], guard := none }) rfl rfl rfl (by kernel_rfl) (by kernel_rfl) (by kernel_rfl) (by kernel_rfl) (by kernel_rfl) (fun _ _ _ h => h) (YS.grow (f := 61) (args := #[.agg (cellsB (trL s1)), .agg (cellsB kn)]) (by rfl) (fun w => by go_simp) (fun _ _ h hg => ⟨h.1.grown hg, h.2.grown hg (by simp)⟩) HWI.out) ?_
        simp only [Act.put, List.setIfInBounds_toArray, List.set_cons_zero, List.set_cons_succ]
        refine wpT_last rfl (by kernel_rfl) (by kernel_rfl) (by rfl) (fun w7 hS7 K hK => ?_)
        have hxl2 := xorL_len (trL_len hs1l) hknl
        refine wp_store_row 27 _ _ rfl gb (cellsB (xorL (trL s1) kn)) rfl rfl 27 _ hS7.1.2.1 (by rw [size_block, cellsB_size, hxl2]) (by rw [cellsB_size, cellsB_size, hxl, hxl2]) (cellsB_one _) (hK _ _ ?_)
        have hS8 := hS7.1.row (xorL (trL s1) kn) HD.out
        rw [← HEN.out] at hS8 ⊢
        obtain ⟨W8, hW8⟩ : ∃ W, W = w7.setRow gb (cellsB (E n)) := ⟨_, rfl⟩
        rw [← hW8] at hS8 ⊢
        have HS8 := Lib.hid hS8
        clear hS8 hW8 hS7
        go_wp2_with fail
        go_roundw
        case rel => exact ⟨n + 1, by omega, by omega, by go_num, by rw [show n + 1 - 1 = n by omega]; exact HS8.out⟩
        case measure => simp [intOf]; omega

    · obtain rfl : n = R + 1 := by omega
      rw [show R + 1 - 1 = R by omega] at hS
      have hel := HEL.out R hR
      have HSF := Lib.hid hS
      obtain ⟨y, hy⟩ : ∃ y, y = E R := ⟨_, rfl⟩
      rw [← hy] at hel HSF
      have e10 : ((R + 1 : Nat) : Int) = (R : Int) + 1 := by omega
      rw [e10]
      have HY := Lib.hid hy
      clear hS hy e10
      go_wp2_with (first | (refine wpList_load_row rfl 27 _ rfl (gb) rfl 27 (cellsB y) (0, 0) _ HSF.out.2.1 Try.underlying27 rfl (by rw [size_block, cellsB_size, hel]) ?_) | (refine wpList_store_row rfl 27 _ _ rfl g6 (cellsB y) rfl rfl 27 _ HSF.out.2.2.1 (by rw [size_block, cellsB_size, hel]) (by rw [cellsB_size, cellsB_size, hel]; rfl) (cellsB_one _) ?_))
      refine bodyPost_ret (v := .agg (cellsB y)) (results_cell_row rfl _ _ g6 27 (cellsB y) (0, 0) _ rfl (setRow_heap _ _ _ _ _ _ HSF.out.2.2.1) Try.underlying27 rfl (by rw [size_block, cellsB_size, hel])) rfl ⟨by rw [HY.out], ?_⟩
      exact grownBy_old HSF.out.1 (grownBy_setRow _ _ _) (by have := HD.out; omega)

end Go.Proofs.Ytlnmglddialhjaa
