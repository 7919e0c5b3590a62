/- aes: what a cipher deciphers. -/
import Derived.Test.YtlnmglddialhjaaAesRounds
import Derived.Test.YtlnmglddialhjaaAesBack
namespace Go.Proofs.Ytlnmglddialhjaa
open Go.RowKit

/-- one round back; so many rounds back -/
def deR (kk x : List UInt8) (i : Nat) : List UInt8 := trL ((unshL (if i < 10 then mixL [14, 11, 13, 9] (trL (xorL x (keyAt kk i))) else trL (xorL x (keyAt kk i)))).map aunsub)
def deS (kk b : List UInt8) : Nat → List UInt8
  | 0 => b
  | n + 1 => deR kk (deS kk b n) (10 - n)
def decS (kk b : List UInt8) : List UInt8 := xorL (deS kk b 10) (keyAt kk 0)

theorem deR_len {kk x : List UInt8} (hk : kk.length = 176) (hx : x.length = 16) {i : Nat} (hi : i ≤ 10) : (deR kk x i).length = 16 := by
  have h1 := trL_len (xorL_len hx (keyAt_len hk hi))
  unfold deR
  refine trL_len (map_len aunsub (unshL_len ?_))
  split
  · exact mixL_len rfl h1
  · exact h1
theorem deS_len {kk b : List UInt8} (hk : kk.length = 176) (hb : b.length = 16) : ∀ n, (deS kk b n).length = 16
  | 0 => hb
  | n + 1 => deR_len hk (deS_len hk hb n) (by omega)
theorem decS_len {kk b : List UInt8} (hk : kk.length = 176) (hb : b.length = 16) : (decS kk b).length = 16 := xorL_len (deS_len hk hb 10) (keyAt_len hk (by omega))

theorem xor_xor {a b : List UInt8} (ha : a.length = 16) (hb : b.length = 16) : xorL (xorL a b) b = a := by
  obtain ⟨x0, x1, x2, x3, x4, x5, x6, x7, x8, x9, x10, x11, x12, x13, x14, x15, rfl⟩ := ex16 ha
  obtain ⟨y0, y1, y2, y3, y4, y5, y6, y7, y8, y9, y10, y11, y12, y13, y14, y15, rfl⟩ := ex16 hb
  simp [xorL, UInt8.xor_assoc]

/-- a round, taken back -/
theorem round_back {kk b : List UInt8} (hk : kk.length = 176) (hb : b.length = 16) {n : Nat} (hn : n + 1 ≤ 10) : deR kk (encS kk b (n + 1)) (n + 1) = encS kk b n := by
  have hx := encS_len hk hb n (by omega)
  have hkn := keyAt_len hk hn
  have h1 := map_len asub (trL_len hx)
  have h2 := shL_len h1
  have h3 := mixL_len (f := [2, 3, 1, 1]) rfl h2
  unfold deR
  rw [show encS kk b (n + 1) = xorL (trL (if n + 1 < 10 then mixL [2, 3, 1, 1] (shL ((trL (encS kk b n)).map asub)) else shL ((trL (encS kk b n)).map asub))) (keyAt kk (n + 1)) from rfl]
  by_cases h : n + 1 < 10
  · rw [if_pos h, if_pos h, xor_xor (trL_len h3) hkn, tr_tr h3, unmix_mix h2, unsh_sh h1, map_back asub aunsub un_sub, tr_tr hx]
  · rw [if_neg h, if_neg h, xor_xor (trL_len h2) hkn, tr_tr h2, unsh_sh h1, map_back asub aunsub un_sub, tr_tr hx]
theorem de_en {kk b : List UInt8} (hk : kk.length = 176) (hb : b.length = 16) : ∀ j, j ≤ 10 → deS kk (encS kk b 10) j = encS kk b (10 - j)
  | 0, _ => rfl
  | j + 1, h => by
    rw [show deS kk (encS kk b 10) (j + 1) = deR kk (deS kk (encS kk b 10) j) (10 - j) from rfl, de_en hk hb j (by omega)]
    have h2 := round_back hk hb (n := 10 - (j + 1)) (by omega)
    rw [show 10 - (j + 1) + 1 = 10 - j by omega] at h2
    exact h2
theorem dec_enc {kk b : List UInt8} (hk : kk.length = 176) (hb : b.length = 16) : decS kk (encS kk b 10) = b := by
  unfold decS
  rw [de_en hk hb 10 (by omega)]
  exact xor_xor hb (keyAt_len hk (by omega))
/-- a round back, done again -/
theorem back_round {kk y : List UInt8} (hk : kk.length = 176) (hy : y.length = 16) {n : Nat} (hn : n + 1 ≤ 10) {z : List UInt8} (hz : encS kk z n = deR kk y (n + 1)) : encS kk z (n + 1) = y := by
  have hkn := keyAt_len hk hn
  have h0 := xorL_len hy hkn
  have h1 := trL_len h0
  have h2 := mixL_len (f := [14, 11, 13, 9]) rfl h1
  rw [show encS kk z (n + 1) = xorL (trL (if n + 1 < 10 then mixL [2, 3, 1, 1] (shL ((trL (encS kk z n)).map asub)) else shL ((trL (encS kk z n)).map asub))) (keyAt kk (n + 1)) from rfl, hz]
  unfold deR
  by_cases h : n + 1 < 10
  · rw [if_pos h, if_pos h, tr_tr (map_len aunsub (unshL_len h2)), map_back aunsub asub sub_un, sh_unsh h2, mix_unmix h1, tr_tr h0, xor_xor hy hkn]
  · rw [if_neg h, if_neg h, tr_tr (map_len aunsub (unshL_len h1)), map_back aunsub asub sub_un, sh_unsh h1, tr_tr h0, xor_xor hy hkn]
theorem en_de {kk b : List UInt8} (hk : kk.length = 176) (hb : b.length = 16) : ∀ n, n ≤ 10 → encS kk (decS kk b) n = deS kk b (10 - n)
  | 0, _ => by
    show xorL (decS kk b) (keyAt kk 0) = deS kk b 10
    exact xor_xor (deS_len hk hb 10) (keyAt_len hk (by omega))
  | n + 1, h => by
    refine back_round hk (deS_len hk hb _) h ?_
    rw [en_de hk hb n (by omega)]
    rw [show 10 - n = 10 - (n + 1) + 1 by omega]
    show deR kk (deS kk b (10 - (n + 1))) (10 - (10 - (n + 1))) = deR kk (deS kk b (10 - (n + 1))) (n + 1)
    rw [show 10 - (10 - (n + 1)) = n + 1 by omega]
theorem enc_dec {kk b : List UInt8} (hk : kk.length = 176) (hb : b.length = 16) : encS kk (decS kk b) 10 = b := en_de hk hb 10 (by omega)
theorem enc_inj {kk a b : List UInt8} (hk : kk.length = 176) (ha : a.length = 16) (hb : b.length = 16) : encS kk a 10 = encS kk b 10 ↔ a = b :=
  ⟨fun h => by rw [← dec_enc hk ha, ← dec_enc hk hb, h], fun h => by rw [h]⟩

/-- what stands in Decrypt -/
def DS (w0 : World) (gc gb g4 : Nat) (kk x : List UInt8) (u : World) : Prop := w0.grownBy u none ∧ Blk u gb 27 x ∧ Blk u g4 27 z16 ∧ CipAt u gc kk
section
variable {w0 w w' : World} {gc gb g4 : Nat} {kk x : List UInt8}
theorem DS.grown (h : DS w0 gc gb g4 kk x w) (hg : w.grownBy w' none) : DS w0 gc gb g4 kk x w' := ⟨grownBy_trans h.1 hg, h.2.1.grown hg (by simp), h.2.2.1.grown hg (by simp), h.2.2.2.grown hg⟩
theorem DS.lt (h : DS w0 gc gb g4 kk x w) : gc < w.heap.size ∧ gb < w.heap.size ∧ g4 < w.heap.size := ⟨h.2.2.2.lt, h.2.1.lt, h.2.2.1.lt⟩
theorem DS.far {g : Nat} (h : DS w0 gc gb g4 kk x w) (hg : w.grownBy w' (some g)) (hw : w0.heap.size ≤ g) (h1 : gb ≠ g) (h2 : g4 ≠ g) (h3 : gc ≠ g) : DS w0 gc gb g4 kk x w' :=
  ⟨grownBy_old h.1 hg hw, h.2.1.grown hg (by simpa using h1.symm), h.2.2.1.grown hg (by simpa using h2.symm), h.2.2.2.far hg h3⟩
theorem DS.put {y : List UInt8} (h : DS w0 gc gb g4 kk x w) (hg : w.grownBy w' (some gb)) (hr : Row w' gb 27 (cellsB y)) (hd : w0.heap.size ≤ gb ∧ gb < g4 ∧ gc < gb) : DS w0 gc gb g4 kk y w' :=
  ⟨grownBy_old h.1 hg hd.1, hr, h.2.2.1.grown hg (by simp; omega), h.2.2.2.far hg (by omega)⟩
end
theorem DS.clo (w0 : World) (gc gb g4 : Nat) (kk x : List UInt8) : Clo (DS w0 gc gb g4 kk x) := fun _ _ h hg => h.grown hg
theorem CipAt.made {w : World} {gc : Nat} {kk : List UInt8} (h : CipAt w gc kk) : w.cell? ⟨gc, 0, none⟩ = some (.bool true) := by have h1 := h.1 0 _ rfl; rwa [Nat.zero_add] at h1

/-- at the end: the answer's room holds whatever -/
def D4 (w0 : World) (gc gb g4 : Nat) (kk x : List UInt8) (u : World) : Prop := w0.grownBy u none ∧ Blk u gb 27 x ∧ CipAt u gc kk ∧ ∃ z, z.length = 16 ∧ Blk u g4 27 z
theorem D4.clo (w0 : World) (gc gb g4 : Nat) (kk x : List UInt8) : Clo (D4 w0 gc gb g4 kk x) := fun _ _ h hg => by
  obtain ⟨h1, h2, h3, z, hz, h4⟩ := h
  exact ⟨grownBy_trans h1 hg, h2.grown hg (by simp), h3.grown hg, z, hz, h4.grown hg (by simp)⟩
theorem D4.clo2 (w0 : World) (gc gb g4 : Nat) (kk x y : List UInt8) : Clo (fun u => D4 w0 gc gb g4 kk x u ∧ Blk u g4 27 y) := fun _ _ h hg => ⟨D4.clo w0 gc gb g4 kk x _ _ h.1 hg, h.2.grown hg (by simp)⟩

set_option maxRecDepth 100000 in
set_option maxHeartbeats 4000000 in
theorem decrypt_n (gc : Nat) (kk b : List UInt8) (hk : kk.length = 176) (hb : b.length = 16) (w : World) (hc : CipAt w gc kk) :
    Calls Try.prog 46 #[.pointer (some ⟨gc, 0, none⟩), aggB b] w fun e w' => e = .returned (.tuple #[.agg (cellsB (decS kk b)), .int .i64 0]) ∧ w.grownBy w' none := by
  obtain ⟨ib, hib, hibz, hibs⟩ := block_info
  obtain ⟨is, his, hisz, hiss⟩ := state_info
  have IB := Lib.hid hib
  have IBZ := Lib.hid hibz
  have IS := Lib.hid his
  have ISZ := Lib.hid hisz
  clear hib hibz hibs his hisz hiss
  have hm0 := hc.made
  have hlc := hc.lt
  have HC := Lib.hid hc
  have HLC := Lib.hid hlc
  clear hc hlc
  obtain ⟨D, hD⟩ : ∃ D : Nat → List UInt8, D = deS kk b := ⟨_, rfl⟩
  have hDl : ∀ n, (D n).length = 16 := fun n => by rw [hD]; exact deS_len hk hb n
  have hDs : ∀ n, D (n + 1) = deR kk (D n) (10 - n) := fun n => by rw [hD]; rfl
  have hD0 : D 0 = b := by rw [hD]; rfl
  have hfin : decS kk b = xorL (D 10) (keyAt kk 0) := by rw [hD]; rfl
  rw [hfin]
  have hxl0 := hDl 10
  obtain ⟨x0, hx0⟩ : ∃ x, x = D 10 := ⟨_, rfl⟩
  rw [← hx0] at hxl0 ⊢
  obtain ⟨k0, hk0⟩ : ∃ q, q = keyAt kk 0 := ⟨_, rfl⟩
  have hk0l : k0.length = 16 := by rw [hk0]; exact keyAt_len hk (by omega)
  rw [← hk0]
  have HX0 := Lib.hid hx0
  have HK0 := Lib.hid hk0
  obtain ⟨y0, hy0⟩ : ∃ q, q = xorL x0 k0 := ⟨_, rfl⟩
  have hy0l : y0.length = 16 := by rw [hy0]; exact xorL_len hxl0 hk0l
  have HW0 := Lib.hid (fun w1 : World => by have h := with_n x0 k0 hxl0 hk0l w1; rw [← hy0] at h; exact h)
  rw [← hy0]
  unfold aggB at HW0
  have hi20 : (Try.prog.info? 27).map (·.size) = some (k0.map bval).length := by rw [size_block, List.length_map, hk0l]
  clear hx0 hk0 hy0
  have HDL := Lib.hid hDl
  have HDS := Lib.hid hDs
  have HD0 := Lib.hid hD0
  clear hD hDl hDs hD0 hfin
  unfold aggB
  go_enter Try.func46, Try.ntmps46
  go_wp2_with (first | (refine wpList_boxed (T := 27) rfl rfl (cellsB b) rfl ?_; intro wb hsb hgb hrb; have HSb := Lib.hid hsb; have HGb := Lib.hid hgb; have HCb := Lib.hid (HC.out.grown hgb); have HRb := Lib.hid (show Blk wb w.heap.size 27 b from hrb); have hm1 := HCb.out.made; clear hsb hgb hrb) | (refine wpList_made rfl rfl IB.out IBZ.out ?_; intro wc hsc hgc hrc; have HGc := Lib.hid (grownBy_trans HGb.out hgc); have HCc := Lib.hid (HCb.out.grown hgc); have HBc := Lib.hid (HRb.out.grown hgc (by simp)); have HRc := Lib.hid (show Blk wc wb.heap.size 27 z16 from hrc); have hmade := HCc.out.made; clear hsc hgc hrc))
  have hdd : w.heap.size ≤ w.heap.size ∧ w.heap.size < wb.heap.size ∧ gc < w.heap.size := ⟨Nat.le_refl _, by have := HSb.out; omega, HLC.out⟩
  have hS0 : DS w gc w.heap.size wb.heap.size kk (D 0) wc := ⟨HGc.out, by rw [HD0.out]; exact HBc.out, HRc.out, HCc.out⟩
  have HS0 := Lib.hid hS0
  have HDD := Lib.hid hdd
  clear hS0 hdd
  obtain ⟨gb, hgb⟩ : ∃ g, g = w.heap.size := ⟨_, rfl⟩
  obtain ⟨g4, hg4⟩ : ∃ g, g = wb.heap.size := ⟨_, rfl⟩
  have hdd2 : w.heap.size ≤ gb ∧ gb < g4 ∧ gc < gb := by rw [hgb, hg4]; exact HDD.out
  rw [← hgb, ← hg4] at HS0
  rw [← hgb, ← hg4]
  replace HDD := Lib.hid hdd2
  clear hgb hg4 hdd2 HGc HCc HBc HRc hmade hm0 hm1 HGb HCb HRb HSb HC
  go_loopw [6] (fun vi wr => ∃ j : Nat, j ≤ 10 ∧ vi = .int .i64 ((10 - j : Nat) : Int) ∧ DS w gc gb g4 kk (D j) wr) (fun vi _ => (intOf vi).toNat)
  case atStart => exact ⟨0, by omega, rfl, HS0.out⟩
  case round =>
    clear HS0
    obtain ⟨j, hj, rfl, hS⟩ := hrel
    by_cases hlt : j < 10
    · obtain ⟨n, hn⟩ : ∃ n, n = 10 - j := ⟨_, rfl⟩
      rw [← hn]
      have hn1 : 1 ≤ n := by omega
      have hn10 : n ≤ 10 := by omega
      have hxl := HDL.out j
      have hyl := HDL.out (j + 1)
      have hYS := HDS.out j
      rw [← hn] at hYS
      obtain ⟨x, hx⟩ : ∃ x, x = D j := ⟨_, rfl⟩
      obtain ⟨y, hy⟩ : ∃ y, y = D (j + 1) := ⟨_, rfl⟩
      rw [← hx] at hxl hS hYS
      rw [← hy] at hyl hYS
      have HY := Lib.hid hy
      obtain ⟨kn, hkn⟩ : ∃ q, q = keyAt kk n := ⟨_, rfl⟩
      have hknl : kn.length = 16 := by rw [hkn]; exact keyAt_len hk hn10
      unfold deR at hYS
      rw [← hkn] at hYS
      have HSX := Lib.hid hS
      have HKN := Lib.hid hkn
      have n11 : (n : Int) < 11 := by omega
      have n0 : (0 : Int) < (n : Int) := by omega
      have hi2' : (Try.prog.info? 27).map (·.size) = some (kn.map bval).length := by rw [size_block, List.length_map, hknl]
      obtain ⟨q1, hq1⟩ : ∃ q, q = xorL x kn := ⟨_, rfl⟩
      have hq1l : q1.length = 16 := by rw [hq1]; exact xorL_len hxl hknl
      have HWI := Lib.hid (fun w1 : World => by have h := with_n x kn hxl hknl w1; rw [← hq1] at h; exact h)
      obtain ⟨q2, hq2⟩ : ∃ q, q = trL q1 := ⟨_, rfl⟩
      have hq2l : q2.length = 16 := by rw [hq2]; exact trL_len hq1l
      have HSP := Lib.hid (fun w1 : World => by have h := spread_n q1 hq1l w1; rw [← hq2] at h; exact h)
      rw [← hq1, ← hq2] at hYS
      have HYS := Lib.hid hYS
      unfold aggB at HWI HSP
      have HN := Lib.hid hn
      clear hS hx hkn hq1 hq2 hYS hn hy
      go_upto_region 6 with fail
      refine wp_regionX (DS w gc gb g4 kk x) 10 (by kernel_rfl) (DS.clo w gc gb g4 kk x _ _ HSX.out (grownBy_drewN _ 1 none)) ?_
      refine wpX_take 0 (v := .agg (cellsB x)) (oi := { dst := some 22, op := Op.load 27 (Operand.tmp 3), type := 27, pos := "aes.go:233", after := #[], guard := none }) (oL := { dst := none, op := Op.store 33 (Operand.tmp 7) (Operand.tmp 30), type := 0, pos := "aes.go:233", after := #[{ on := 9, ground := Ground.data }, { on := 8, ground := Ground.data }, { on := 8, ground := Ground.chain }, { on := 0, ground := Ground.phase }, { on := 1, ground := Ground.phase }, { on := 2, ground := Ground.phase }, { on := 3, ground := Ground.phase }, { on := 4, ground := Ground.phase }, { on := 5, ground := Ground.phase }, { on := 6, ground := Ground.phase }, { on := 7, ground := Ground.phase }, { on := 8, ground := Ground.phase }, { on := 9, ground := Ground.phase }], guard := none }) (DS.clo w gc gb g4 kk x) rfl rfl rfl (by kernel_rfl) (by kernel_rfl) (by kernel_rfl) (by kernel_rfl) (by kernel_rfl) (fun _ _ _ h => h) (YG.val (by rfl) (fun u hS => run_load_op u _ 27 _ rfl (gb) rfl 27 (cellsB x) (hS.2.1) Try.underlying27 rfl (by rw [size_block, cellsB_size, hxl]))) ?_
      simp only [Act.put, List.setIfInBounds_toArray, List.set_cons_zero, List.set_cons_succ]
      refine wpX_take 1 (v := .pointer (some ⟨gc, 0, none⟩)) (oi := { dst := some 23, op := Op.move (Operand.tmp 0), type := 50, pos := "aes.go:233", after := #[], guard := none }) (oL := { dst := none, op := Op.store 33 (Operand.tmp 7) (Operand.tmp 30), type := 0, pos := "aes.go:233", after := #[{ on := 9, ground := Ground.data }, { on := 8, ground := Ground.data }, { on := 8, ground := Ground.chain }, { on := 0, ground := Ground.phase }, { on := 1, ground := Ground.phase }, { on := 2, ground := Ground.phase }, { on := 3, ground := Ground.phase }, { on := 4, ground := Ground.phase }, { on := 5, ground := Ground.phase }, { on := 6, ground := Ground.phase }, { on := 7, ground := Ground.phase }, { on := 8, ground := Ground.phase }, { on := 9, ground := Ground.phase }], guard := none }) (DS.clo w gc gb g4 kk x) rfl rfl rfl (by kernel_rfl) (by kernel_rfl) (by kernel_rfl) (by kernel_rfl) (by kernel_rfl) (fun _ _ _ h => h) (YG.val (by rfl) (fun _ _ => rfl)) ?_
      simp only [Act.put, List.setIfInBounds_toArray, List.set_cons_zero, List.set_cons_succ]
      refine wpX_take 2 (v := .int .i64 (n : Int)) (oi := { dst := some 24, op := Op.move (Operand.tmp 6), type := 3, pos := "aes.go:233", after := #[], guard := none }) (oL := { dst := none, op := Op.store 33 (Operand.tmp 7) (Operand.tmp 30), type := 0, pos := "aes.go:233", after := #[{ on := 9, ground := Ground.data }, { on := 8, ground := Ground.data }, { on := 8, ground := Ground.chain }, { on := 0, ground := Ground.phase }, { on := 1, ground := Ground.phase }, { on := 2, ground := Ground.phase }, { on := 3, ground := Ground.phase }, { on := 4, ground := Ground.phase }, { on := 5, ground := Ground.phase }, { on := 6, ground := Ground.phase }, { on := 7, ground := Ground.phase }, { on := 8, ground := Ground.phase }, { on := 9, ground := Ground.phase }], guard := none }) (DS.clo w gc gb g4 kk x) rfl rfl rfl (by kernel_rfl) (by kernel_rfl) (by kernel_rfl) (by kernel_rfl) (by kernel_rfl) (fun _ _ _ h => h) (YG.val (by rfl) (fun _ _ => rfl)) ?_
      simp only [Act.put, List.setIfInBounds_toArray, List.set_cons_zero, List.set_cons_succ]
      refine wpX_take 3 (v := .pointer (some ⟨gc, 0, none⟩)) (oi := { dst := some 25, op := Op.nilCheck (Operand.tmp 23), type := 0, pos := "aes.go:233", after := #[{ on := 1, ground := Ground.data }], guard := none }) (oL := { dst := none, op := Op.store 33 (Operand.tmp 7) (Operand.tmp 30), type := 0, pos := "aes.go:233", after := #[{ on := 9, ground := Ground.data }, { on := 8, ground := Ground.data }, { on := 8, ground := Ground.chain }, { on := 0, ground := Ground.phase }, { on := 1, ground := Ground.phase }, { on := 2, ground := Ground.phase }, { on := 3, ground := Ground.phase }, { on := 4, ground := Ground.phase }, { on := 5, ground := Ground.phase }, { on := 6, ground := Ground.phase }, { on := 7, ground := Ground.phase }, { on := 8, ground := Ground.phase }, { on := 9, ground := Ground.phase }], guard := none }) (DS.clo w gc gb g4 kk x) rfl rfl rfl (by kernel_rfl) (by kernel_rfl) (by kernel_rfl) (by kernel_rfl) (by kernel_rfl) (fun _ _ _ h => h) (YG.val (by rfl) (fun _ _ => by go_simp)) ?_
      simp only [Act.put, List.setIfInBounds_toArray, List.set_cons_zero, List.set_cons_succ]
      refine wpX_take 4 (v := .pointer (some ⟨gc, 1, none⟩)) (oi := { dst := some 26, op := Op.fieldAddr 59 (Operand.tmp 25) 1, type := 0, pos := "aes.go:233", after := #[{ on := 3, ground := Ground.data }], guard := none }) (oL := { dst := none, op := Op.store 33 (Operand.tmp 7) (Operand.tmp 30), type := 0, pos := "aes.go:233", after := #[{ on := 9, ground := Ground.data }, { on := 8, ground := Ground.data }, { on := 8, ground := Ground.chain }, { on := 0, ground := Ground.phase }, { on := 1, ground := Ground.phase }, { on := 2, ground := Ground.phase }, { on := 3, ground := Ground.phase }, { on := 4, ground := Ground.phase }, { on := 5, ground := Ground.phase }, { on := 6, ground := Ground.phase }, { on := 7, ground := Ground.phase }, { on := 8, ground := Ground.phase }, { on := 9, ground := Ground.phase }], guard := none }) (DS.clo w gc gb g4 kk x) rfl rfl rfl (by kernel_rfl) (by kernel_rfl) (by kernel_rfl) (by kernel_rfl) (by kernel_rfl) (fun _ _ _ h => h) (YG.val (by rfl) (fun _ _ => by go_simp)) ?_
      simp only [Act.put, List.setIfInBounds_toArray, List.set_cons_zero, List.set_cons_succ]
      refine wpX_take 5 (v := .pointer (some ⟨gc, 1 + n * 16, none⟩)) (oi := { dst := some 27, op := Op.indexAddr 28 (Operand.tmp 26) (Operand.tmp 24), type := 0, pos := "aes.go:233", after := #[{ on := 4, ground := Ground.data }, { on := 2, ground := Ground.data }], guard := none }) (oL := { dst := none, op := Op.store 33 (Operand.tmp 7) (Operand.tmp 30), type := 0, pos := "aes.go:233", after := #[{ on := 9, ground := Ground.data }, { on := 8, ground := Ground.data }, { on := 8, ground := Ground.chain }, { on := 0, ground := Ground.phase }, { on := 1, ground := Ground.phase }, { on := 2, ground := Ground.phase }, { on := 3, ground := Ground.phase }, { on := 4, ground := Ground.phase }, { on := 5, ground := Ground.phase }, { on := 6, ground := Ground.phase }, { on := 7, ground := Ground.phase }, { on := 8, ground := Ground.phase }, { on := 9, ground := Ground.phase }], guard := none }) (DS.clo w gc gb g4 kk x) rfl rfl rfl (by kernel_rfl) (by kernel_rfl) (by kernel_rfl) (by kernel_rfl) (by kernel_rfl) (fun _ _ _ h => h) (YG.val (by rfl) (fun _ _ => by go_simp)) ?_
      simp only [Act.put, List.setIfInBounds_toArray, List.set_cons_zero, List.set_cons_succ]
      refine wpX_take 6 (v := .agg (cellsB kn)) (oi := { dst := some 28, op := Op.load 27 (Operand.tmp 27), type := 27, pos := "aes.go:233", after := #[{ on := 5, ground := Ground.data }], guard := none }) (oL := { dst := none, op := Op.store 33 (Operand.tmp 7) (Operand.tmp 30), type := 0, pos := "aes.go:233", after := #[{ on := 9, ground := Ground.data }, { on := 8, ground := Ground.data }, { on := 8, ground := Ground.chain }, { on := 0, ground := Ground.phase }, { on := 1, ground := Ground.phase }, { on := 2, ground := Ground.phase }, { on := 3, ground := Ground.phase }, { on := 4, ground := Ground.phase }, { on := 5, ground := Ground.phase }, { on := 6, ground := Ground.phase }, { on := 7, ground := Ground.phase }, { on := 8, ground := Ground.phase }, { on := 9, ground := Ground.phase }], guard := none }) (DS.clo w gc gb g4 kk x) rfl rfl rfl (by kernel_rfl) (by kernel_rfl) (by kernel_rfl) (by kernel_rfl) (by kernel_rfl) (fun _ _ _ h => h) (YG.row (by rfl) 27 _ rfl gc (1 + n * 16) rfl (kn.map bval) _ (fun u hS => by rw [HKN.out]; exact hS.2.2.2.key n) Try.underlying27 rfl hi2') ?_
      simp only [Act.put, List.setIfInBounds_toArray, List.set_cons_zero, List.set_cons_succ]
      refine wpX_take 7 (v := .agg (cellsB q1)) (oi := { dst := some 29, op := Op.call { callee := Callee.value (Operand.func 62), args := #[Operand.tmp 22, Operand.tmp 28], argTypes := #[27, 27] }, type := 27, pos := "aes.go:233", after := #[{ on := 0, ground := Ground.data }, { on := 6, ground := Ground.data }], guard := none }) (oL := { dst := none, op := Op.store 33 (Operand.tmp 7) (Operand.tmp 30), type := 0, pos := "aes.go:233", after := #[{ on := 9, ground := Ground.data }, { on := 8, ground := Ground.data }, { on := 8, ground := Ground.chain }, { on := 0, ground := Ground.phase }, { on := 1, ground := Ground.phase }, { on := 2, ground := Ground.phase }, { on := 3, ground := Ground.phase }, { on := 4, ground := Ground.phase }, { on := 5, ground := Ground.phase }, { on := 6, ground := Ground.phase }, { on := 7, ground := Ground.phase }, { on := 8, ground := Ground.phase }, { on := 9, ground := Ground.phase }], guard := none }) (DS.clo w gc gb g4 kk x) rfl rfl rfl (by kernel_rfl) (by kernel_rfl) (by kernel_rfl) (by kernel_rfl) (by kernel_rfl) (fun _ _ _ h => h) (YG.call (f := 62) (args := #[.agg (cellsB x), .agg (cellsB kn)]) (by rfl) (fun w => by go_simp) (fun u _ => HWI.out u)) ?_
      simp only [Act.put, List.setIfInBounds_toArray, List.set_cons_zero, List.set_cons_succ]
      refine wpX_take 8 (v := .agg (cellsB q2)) (oi := { dst := some 30, op := Op.call { callee := Callee.value (Operand.func 24), args := #[Operand.tmp 29], argTypes := #[27] }, type := 33, pos := "aes.go:233", after := #[{ on := 7, ground := Ground.data }, { on := 7, ground := Ground.chain }], guard := none }) (oL := { dst := none, op := Op.store 33 (Operand.tmp 7) (Operand.tmp 30), type := 0, pos := "aes.go:233", after := #[{ on := 9, ground := Ground.data }, { on := 8, ground := Ground.data }, { on := 8, ground := Ground.chain }, { on := 0, ground := Ground.phase }, { on := 1, ground := Ground.phase }, { on := 2, ground := Ground.phase }, { on := 3, ground := Ground.phase }, { on := 4, ground := Ground.phase }, { on := 5, ground := Ground.phase }, { on := 6, ground := Ground.phase }, { on := 7, ground := Ground.phase }, { on := 8, ground := Ground.phase }, { on := 9, ground := Ground.phase }], guard := none }) (DS.clo w gc gb g4 kk x) rfl rfl rfl (by kernel_rfl) (by kernel_rfl) (by kernel_rfl) (by kernel_rfl) (by kernel_rfl) (fun _ _ _ h => h) (YG.call (f := 24) (args := #[.agg (cellsB q1)]) (by rfl) (fun w => by go_simp) (fun u _ => HSP.out u)) ?_
      simp only [Act.put, List.setIfInBounds_toArray, List.set_cons_zero, List.set_cons_succ]
      refine wpX_step 9 (o := { dst := some 7, op := Op.alloc 33, type := 0, pos := "aes.go:233", after := #[], guard := none }) rfl rfl (by kernel_rfl) (by rfl) (fun u2 hS2 K hK => ?_)
      have HK := Lib.hid hK
      have HS2 := Lib.hid hS2
      clear hK hS2
      refine wp_val_op (v := .pointer (some ⟨u2.heap.size, 0, none⟩)) (w1 := u2.alloc (.cells (cellsB z16) 33)) (run_alloc_op u2 _ rfl IS.out ISZ.out) ?_
      have hlt2 := HS2.out.lt
      have hls2 : w.heap.size ≤ u2.heap.size := HS2.out.1.size
      obtain ⟨gs, hgs⟩ : ∃ g, g = u2.heap.size := ⟨_, rfl⟩
      refine HK.out (fun u => DS w gc gb g4 kk x u ∧ ∃ z, z.length = 16 ∧ Blk u u2.heap.size 33 z) _ _ ⟨HS2.out.grown (World.grownBy_alloc _ _ _), z16, rfl, Blk.new u2 33 z16⟩ (fun u h => h.1) (fun _ _ h hg => ⟨h.1.grown hg, by obtain ⟨z, hz, hb⟩ := h.2; exact ⟨z, hz, hb.grown hg (by simp)⟩⟩) ?_
      simp only [Act.put, List.setIfInBounds_toArray, List.set_cons_zero, List.set_cons_succ]
      rw [← hgs]
      rw [← hgs] at hlt2 hls2
      have HGS := Lib.hid hlt2
      have HWS := Lib.hid hls2
      clear hgs hlt2 hls2 HK HS2
      refine wpX_last (oL := { dst := none, op := Op.store 33 (Operand.tmp 7) (Operand.tmp 30), type := 0, pos := "aes.go:233", after := #[{ on := 9, ground := Ground.data }, { on := 8, ground := Ground.data }, { on := 8, ground := Ground.chain }, { on := 0, ground := Ground.phase }, { on := 1, ground := Ground.phase }, { on := 2, ground := Ground.phase }, { on := 3, ground := Ground.phase }, { on := 4, ground := Ground.phase }, { on := 5, ground := Ground.phase }, { on := 6, ground := Ground.phase }, { on := 7, ground := Ground.phase }, { on := 8, ground := Ground.phase }, { on := 9, ground := Ground.phase }], guard := none }) rfl (by kernel_rfl) (by kernel_rfl) (by rfl) (fun u4 hS4 K4 hK4 => ?_)
      obtain ⟨hD4, z4, hz4, hb4⟩ := hS4
      refine wp_store_row 33 _ _ rfl gs (cellsB q2) rfl rfl 33 _ hb4 (by rw [size_state, cellsB_size, hq2l]) (by rw [cellsB_size, cellsB_size, hq2l, hz4]) (cellsB_one _) (hK4 _ _ ?_)
      have hset := grownBy_setRow u4 gs (cellsB q2)
      have hd5 := hD4.far hset HWS.out (by have := HGS.out; omega) (by have := HGS.out; omega) (by have := HGS.out; omega)
      have hb5 := hb4.row q2
      obtain ⟨w5, hw5⟩ : ∃ W, W = u4.setRow gs (cellsB q2) := ⟨_, rfl⟩
      rw [← hw5] at hd5 hb5 ⊢
      have HD5 := Lib.hid hd5
      have HB5 := Lib.hid hb5
      clear hset hd5 hb5 hw5 hD4 hz4 hb4 hK4 HSX
      by_cases h10 : n < 10
      · obtain ⟨q3, hq3⟩ : ∃ q, q = mixL [14, 11, 13, 9] q2 := ⟨_, rfl⟩
        have hq3l : q3.length = 16 := by rw [hq3]; exact mixL_len rfl hq2l
        have HMX := Lib.hid (fun w1 : World => by have h := unmix_n q2 hq2l w1; rw [← hq3] at h; exact h)
        have hys := HYS.out
        rw [if_pos h10, ← hq3] at hys
        obtain ⟨q4, hq4⟩ : ∃ q, q = unshL q3 := ⟨_, rfl⟩
        have hq4l : q4.length = 16 := by rw [hq4]; exact unshL_len hq3l
        have HUS := Lib.hid (fun w1 : World => by have h := unshift_n q3 hq3l w1; rw [← hq4] at h; exact h)
        obtain ⟨q5, hq5⟩ : ∃ q, q = q4.map aunsub := ⟨_, rfl⟩
        have hq5l : q5.length = 16 := by rw [hq5]; exact map_len aunsub hq4l
        have HUB := Lib.hid (fun w1 : World => by have h := unsubAll_n q4 hq4l w1; rw [← hq5] at h; exact h)
        rw [← hq4, ← hq5] at hys
        have HGA := Lib.hid (fun w1 : World => by have h := gather_n q5 hq5l w1; rw [← hys] at h; exact h)
        unfold aggB at HMX HUS HUB HGA
        clear hq3 hq4 hq5 hys HYS
        have h10' : (n : Int) < 10 := by omega
        have h10d : decide ((n : Int) < 10) = true := by simp; omega
        have hnj : j + n = 10 := by have := HN.out; omega
        go_wp2_with (first | (refine wpList_load_rowW (by rfl) 33 _ rfl (gs) rfl 33 (cellsB q2) (0, 0) _ HB5.out Try.underlying33 rfl (by rw [size_state, cellsB_size, hq2l]) ?_))
        refine (HMX.out _).mono ?_
        rintro e w6 ⟨rfl, hg6⟩
        have HD6 := Lib.hid (HD5.out.grown hg6)
        have HB6 := Lib.hid (HB5.out.grown hg6 (by simp))
        clear hg6 HD5 HB5
        go_wp2_with (first | (refine wpList_putrow rfl rfl (gs) rfl (cellsB q3) rfl HB6.out (by rw [size_state, cellsB_size, hq3l]) (by rw [cellsB_size, cellsB_size, hq3l, hq2l]) (cellsB_one _) ?_; intro wq hgP hrP; have HD6b := Lib.hid (HD6.out.far hgP HWS.out (by have := HGS.out; omega) (by have := HGS.out; omega) (by have := HGS.out; omega)); have HB6b := Lib.hid (show Blk wq gs 33 q3 from hrP); clear hgP hrP) | (refine wpList_load_rowW (by rfl) 33 _ rfl (gs) rfl 33 (cellsB q3) (0, 0) _ HB6b.out Try.underlying33 rfl (by rw [size_state, cellsB_size, hq3l]) ?_))
        refine (HUS.out _).mono ?_
        rintro e w7 ⟨rfl, hg7⟩
        have HD7 := Lib.hid (HD6b.out.grown hg7)
        clear hg7
        go_wp2_with fail
        refine (HUB.out _).mono ?_
        rintro e w8 ⟨rfl, hg8⟩
        have HD8 := Lib.hid (HD7.out.grown hg8)
        clear hg8
        go_wp2_with fail
        refine (HGA.out _).mono ?_
        rintro e w9 ⟨rfl, hg9⟩
        have HD9 := Lib.hid (HD8.out.grown hg9)
        clear hg9
        have e20 : IntKind.i64.wrap ((n : Int) - 1) = (n : Int) - 1 := IntWalk.i64_in _ (by omega)
        go_wp2_with (first | (refine wpList_putrow rfl rfl (gb) rfl (cellsB y) rfl HD9.out.2.1 (by rw [size_block, cellsB_size, hyl]) (by rw [cellsB_size, cellsB_size, hyl, hxl]) (cellsB_one _) ?_; intro wp hgP hrP; have HDP := Lib.hid (HD9.out.put hgP hrP HDD.out); clear hgP hrP))
        go_roundw
        case rel => exact ⟨j + 1, by omega, by rw [show 10 - (j + 1) = n - 1 by omega, show ((n - 1 : Nat) : Int) = (n : Int) - 1 by omega], by rw [← HY.out]; exact HDP.out⟩
        case measure => simp [intOf]; omega

      · have hys := HYS.out
        rw [if_neg h10] at hys
        obtain ⟨q4, hq4⟩ : ∃ q, q = unshL q2 := ⟨_, rfl⟩
        have hq4l : q4.length = 16 := by rw [hq4]; exact unshL_len hq2l
        have HUS := Lib.hid (fun w1 : World => by have h := unshift_n q2 hq2l w1; rw [← hq4] at h; exact h)
        obtain ⟨q5, hq5⟩ : ∃ q, q = q4.map aunsub := ⟨_, rfl⟩
        have hq5l : q5.length = 16 := by rw [hq5]; exact map_len aunsub hq4l
        have HUB := Lib.hid (fun w1 : World => by have h := unsubAll_n q4 hq4l w1; rw [← hq5] at h; exact h)
        rw [← hq4, ← hq5] at hys
        have HGA := Lib.hid (fun w1 : World => by have h := gather_n q5 hq5l w1; rw [← hys] at h; exact h)
        unfold aggB at HUS HUB HGA
        clear hq4 hq5 hys HYS
        have h10' : ¬ (n : Int) < 10 := by omega
        have h10d : decide ((n : Int) < 10) = false := by simp; omega
        have hnj : j + n = 10 := by have := HN.out; omega
        go_wp2_with (first | (refine wpList_load_rowW (by rfl) 33 _ rfl (gs) rfl 33 (cellsB q2) (0, 0) _ HB5.out Try.underlying33 rfl (by rw [size_state, cellsB_size, hq2l]) ?_))
        refine (HUS.out _).mono ?_
        rintro e w7 ⟨rfl, hg7⟩
        have HD7 := Lib.hid (HD5.out.grown hg7)
        clear hg7
        go_wp2_with fail
        refine (HUB.out _).mono ?_
        rintro e w8 ⟨rfl, hg8⟩
        have HD8 := Lib.hid (HD7.out.grown hg8)
        clear hg8
        go_wp2_with fail
        refine (HGA.out _).mono ?_
        rintro e w9 ⟨rfl, hg9⟩
        have HD9 := Lib.hid (HD8.out.grown hg9)
        clear hg9
        have e20 : IntKind.i64.wrap ((n : Int) - 1) = (n : Int) - 1 := IntWalk.i64_in _ (by omega)
        go_wp2_with (first | (refine wpList_putrow rfl rfl (gb) rfl (cellsB y) rfl HD9.out.2.1 (by rw [size_block, cellsB_size, hyl]) (by rw [cellsB_size, cellsB_size, hyl, hxl]) (cellsB_one _) ?_; intro wp hgP hrP; have HDP := Lib.hid (HD9.out.put hgP hrP HDD.out); clear hgP hrP))
        go_roundw
        case rel => exact ⟨j + 1, by omega, by rw [show 10 - (j + 1) = n - 1 by omega, show ((n - 1 : Nat) : Int) = (n : Int) - 1 by omega], by rw [← HY.out]; exact HDP.out⟩
        case measure => simp [intOf]; omega

    · obtain rfl : j = 10 := by omega
      rw [← HX0.out] at hS
      have HSX := Lib.hid hS
      clear hS
      have e00 : ((10 - 10 : Nat) : Int) = 0 := rfl
      rw [e00]
      go_upto_region 10 with fail
      refine wp_regionX (D4 w gc gb g4 kk x0) 8 (by kernel_rfl) (D4.clo w gc gb g4 kk x0 _ _ ⟨HSX.out.1, HSX.out.2.1, HSX.out.2.2.2, z16, rfl, HSX.out.2.2.1⟩ (grownBy_drewN _ 1 none)) ?_
      refine wpX_take 0 (v := .agg (cellsB x0)) (oi := { dst := some 39, op := Op.load 27 (Operand.tmp 3), type := 27, pos := "aes.go:239", after := #[], guard := none }) (oL := { dst := some 5, op := Op.assign (Operand.const (Value.int IntKind.i64 0)), type := 40, pos := "aes.go:239", after := #[{ on := 7, ground := Ground.chain }, { on := 0, ground := Ground.phase }, { on := 1, ground := Ground.phase }, { on := 2, ground := Ground.phase }, { on := 3, ground := Ground.phase }, { on := 4, ground := Ground.phase }, { on := 5, ground := Ground.phase }, { on := 6, ground := Ground.phase }, { on := 7, ground := Ground.phase }], guard := none }) (D4.clo w gc gb g4 kk x0) rfl rfl rfl (by kernel_rfl) (by kernel_rfl) (by kernel_rfl) (by kernel_rfl) (by kernel_rfl) (fun _ _ _ h => h) (YG.val (by rfl) (fun u hS => run_load_op u _ 27 _ rfl (gb) rfl 27 (cellsB x0) (hS.2.1) Try.underlying27 rfl (by rw [size_block, cellsB_size, hxl0]))) ?_
      simp only [Act.put, List.setIfInBounds_toArray, List.set_cons_zero, List.set_cons_succ]
      refine wpX_take 1 (v := .pointer (some ⟨gc, 0, none⟩)) (oi := { dst := some 40, op := Op.move (Operand.tmp 0), type := 50, pos := "aes.go:239", after := #[], guard := none }) (oL := { dst := some 5, op := Op.assign (Operand.const (Value.int IntKind.i64 0)), type := 40, pos := "aes.go:239", after := #[{ on := 7, ground := Ground.chain }, { on := 0, ground := Ground.phase }, { on := 1, ground := Ground.phase }, { on := 2, ground := Ground.phase }, { on := 3, ground := Ground.phase }, { on := 4, ground := Ground.phase }, { on := 5, ground := Ground.phase }, { on := 6, ground := Ground.phase }, { on := 7, ground := Ground.phase }], guard := none }) (D4.clo w gc gb g4 kk x0) rfl rfl rfl (by kernel_rfl) (by kernel_rfl) (by kernel_rfl) (by kernel_rfl) (by kernel_rfl) (fun _ _ _ h => h) (YG.val (by rfl) (fun _ _ => rfl)) ?_
      simp only [Act.put, List.setIfInBounds_toArray, List.set_cons_zero, List.set_cons_succ]
      refine wpX_take 2 (v := .pointer (some ⟨gc, 0, none⟩)) (oi := { dst := some 41, op := Op.nilCheck (Operand.tmp 40), type := 0, pos := "aes.go:239", after := #[{ on := 1, ground := Ground.data }], guard := none }) (oL := { dst := some 5, op := Op.assign (Operand.const (Value.int IntKind.i64 0)), type := 40, pos := "aes.go:239", after := #[{ on := 7, ground := Ground.chain }, { on := 0, ground := Ground.phase }, { on := 1, ground := Ground.phase }, { on := 2, ground := Ground.phase }, { on := 3, ground := Ground.phase }, { on := 4, ground := Ground.phase }, { on := 5, ground := Ground.phase }, { on := 6, ground := Ground.phase }, { on := 7, ground := Ground.phase }], guard := none }) (D4.clo w gc gb g4 kk x0) rfl rfl rfl (by kernel_rfl) (by kernel_rfl) (by kernel_rfl) (by kernel_rfl) (by kernel_rfl) (fun _ _ _ h => h) (YG.val (by rfl) (fun _ _ => by go_simp)) ?_
      simp only [Act.put, List.setIfInBounds_toArray, List.set_cons_zero, List.set_cons_succ]
      refine wpX_take 3 (v := .pointer (some ⟨gc, 1, none⟩)) (oi := { dst := some 42, op := Op.fieldAddr 59 (Operand.tmp 41) 1, type := 0, pos := "aes.go:239", after := #[{ on := 2, ground := Ground.data }], guard := none }) (oL := { dst := some 5, op := Op.assign (Operand.const (Value.int IntKind.i64 0)), type := 40, pos := "aes.go:239", after := #[{ on := 7, ground := Ground.chain }, { on := 0, ground := Ground.phase }, { on := 1, ground := Ground.phase }, { on := 2, ground := Ground.phase }, { on := 3, ground := Ground.phase }, { on := 4, ground := Ground.phase }, { on := 5, ground := Ground.phase }, { on := 6, ground := Ground.phase }, { on := 7, ground := Ground.phase }], guard := none }) (D4.clo w gc gb g4 kk x0) rfl rfl rfl (by kernel_rfl) (by kernel_rfl) (by kernel_rfl) (by kernel_rfl) (by kernel_rfl) (fun _ _ _ h => h) (YG.val (by rfl) (fun _ _ => by go_simp)) ?_
      simp only [Act.put, List.setIfInBounds_toArray, List.set_cons_zero, List.set_cons_succ]
      refine wpX_take 4 (v := .pointer (some ⟨gc, 1, none⟩)) (oi := { dst := some 43, op := Op.indexAddr 28 (Operand.tmp 42) (Operand.const (Value.int IntKind.i64 0)), type := 0, pos := "aes.go:239", after := #[{ on := 3, ground := Ground.data }], guard := none }) (oL := { dst := some 5, op := Op.assign (Operand.const (Value.int IntKind.i64 0)), type := 40, pos := "aes.go:239", after := #[{ on := 7, ground := Ground.chain }, { on := 0, ground := Ground.phase }, { on := 1, ground := Ground.phase }, { on := 2, ground := Ground.phase }, { on := 3, ground := Ground.phase }, { on := 4, ground := Ground.phase }, { on := 5, ground := Ground.phase }, { on := 6, ground := Ground.phase }, { on := 7, ground := Ground.phase }], guard := none }) (D4.clo w gc gb g4 kk x0) rfl rfl rfl (by kernel_rfl) (by kernel_rfl) (by kernel_rfl) (by kernel_rfl) (by kernel_rfl) (fun _ _ _ h => h) (YG.val (by rfl) (fun _ _ => by go_simp)) ?_
      simp only [Act.put, List.setIfInBounds_toArray, List.set_cons_zero, List.set_cons_succ]
      refine wpX_take 5 (v := .agg (cellsB k0)) (oi := { dst := some 44, op := Op.load 27 (Operand.tmp 43), type := 27, pos := "aes.go:239", after := #[{ on := 4, ground := Ground.data }], guard := none }) (oL := { dst := some 5, op := Op.assign (Operand.const (Value.int IntKind.i64 0)), type := 40, pos := "aes.go:239", after := #[{ on := 7, ground := Ground.chain }, { on := 0, ground := Ground.phase }, { on := 1, ground := Ground.phase }, { on := 2, ground := Ground.phase }, { on := 3, ground := Ground.phase }, { on := 4, ground := Ground.phase }, { on := 5, ground := Ground.phase }, { on := 6, ground := Ground.phase }, { on := 7, ground := Ground.phase }], guard := none }) (D4.clo w gc gb g4 kk x0) rfl rfl rfl (by kernel_rfl) (by kernel_rfl) (by kernel_rfl) (by kernel_rfl) (by kernel_rfl) (fun _ _ _ h => h) (YG.row (by rfl) 27 _ rfl gc 1 rfl (k0.map bval) _ (fun u hS => by rw [HK0.out]; exact hS.2.2.1.key 0) Try.underlying27 rfl hi20) ?_
      simp only [Act.put, List.setIfInBounds_toArray, List.set_cons_zero, List.set_cons_succ]
      refine wpX_take 6 (v := .agg (cellsB y0)) (oi := { dst := some 45, op := Op.call { callee := Callee.value (Operand.func 62), args := #[Operand.tmp 39, Operand.tmp 44], argTypes := #[27, 27] }, type := 27, pos := "aes.go:239", after := #[{ on := 0, ground := Ground.data }, { on := 5, ground := Ground.data }], guard := none }) (oL := { dst := some 5, op := Op.assign (Operand.const (Value.int IntKind.i64 0)), type := 40, pos := "aes.go:239", after := #[{ on := 7, ground := Ground.chain }, { on := 0, ground := Ground.phase }, { on := 1, ground := Ground.phase }, { on := 2, ground := Ground.phase }, { on := 3, ground := Ground.phase }, { on := 4, ground := Ground.phase }, { on := 5, ground := Ground.phase }, { on := 6, ground := Ground.phase }, { on := 7, ground := Ground.phase }], guard := none }) (D4.clo w gc gb g4 kk x0) rfl rfl rfl (by kernel_rfl) (by kernel_rfl) (by kernel_rfl) (by kernel_rfl) (by kernel_rfl) (fun _ _ _ h => h) (YG.call (f := 62) (args := #[.agg (cellsB x0), .agg (cellsB k0)]) (by rfl) (fun w => by go_simp) (fun u _ => HW0.out u)) ?_
      simp only [Act.put, List.setIfInBounds_toArray, List.set_cons_zero, List.set_cons_succ]
      refine wpX_step 7 (o := { dst := none, op := Op.store 27 (Operand.tmp 4) (Operand.tmp 45), type := 0, pos := "aes.go:239", after := #[{ on := 6, ground := Ground.data }, { on := 6, ground := Ground.chain }, { on := 0, ground := Ground.phase }, { on := 1, ground := Ground.phase }, { on := 2, ground := Ground.phase }, { on := 3, ground := Ground.phase }, { on := 4, ground := Ground.phase }, { on := 5, ground := Ground.phase }, { on := 6, ground := Ground.phase }], guard := none }) rfl rfl (by kernel_rfl) (by rfl) (fun u5 hS5 K hK => ?_)
      obtain ⟨a1, a2, a3, z, hzl, a4⟩ := hS5
      refine wp_store_row 27 _ _ rfl g4 (cellsB y0) rfl rfl 27 _ a4 (by rw [size_block, cellsB_size, hy0l]) (by rw [cellsB_size, cellsB_size, hy0l, hzl]) (cellsB_one _) ?_
      have hset := grownBy_setRow u5 g4 (cellsB y0)
      refine hK (fun u => D4 w gc gb g4 kk x0 u ∧ Blk u g4 27 y0) _ _ ⟨⟨grownBy_old a1 hset (by have := HDD.out; omega), a2.grown hset (by have := HDD.out; simp; omega), a3.far hset (by have := HDD.out; omega), y0, hy0l, a4.row y0⟩, a4.row y0⟩ (fun u h => h.1) (D4.clo2 w gc gb g4 kk x0 y0) ?_
      simp only [Act.put, List.setIfInBounds_toArray, List.set_cons_zero, List.set_cons_succ]
      clear hset a1 a2 a3 a4 hK hzl
      refine wpX_last (oL := { dst := some 5, op := Op.assign (Operand.const (Value.int IntKind.i64 0)), type := 40, pos := "aes.go:239", after := #[{ on := 7, ground := Ground.chain }, { on := 0, ground := Ground.phase }, { on := 1, ground := Ground.phase }, { on := 2, ground := Ground.phase }, { on := 3, ground := Ground.phase }, { on := 4, ground := Ground.phase }, { on := 5, ground := Ground.phase }, { on := 6, ground := Ground.phase }, { on := 7, ground := Ground.phase }], guard := none }) rfl (by kernel_rfl) (by kernel_rfl) (by rfl) (fun u6 hS6 K6 hK6 => ?_)
      refine wp_val_op (v := .int .i64 0) (w1 := u6) (by rfl) (hK6 _ _ ?_)
      simp only [Act.put, List.setIfInBounds_toArray, List.set_cons_zero, List.set_cons_succ]
      have HG6 := Lib.hid hS6.1.1
      have HR6 := Lib.hid hS6.2
      clear hS6 hK6
      go_wp2_with fail
      refine bodyPost_ret (v := .tuple #[.agg (cellsB y0), .int .i64 0]) (results_ct rfl _ _ g4 27 (cellsB y0) (0, 0) _ _ rfl rfl HR6.out Try.underlying27 rfl (by rw [size_block, cellsB_size, hy0l])) rfl ⟨rfl, ?_⟩
      exact HG6.out

end Go.Proofs.Ytlnmglddialhjaa
