/- Helpers and contracts of the proofs over this seat: CtrPiecesL. Each states what a function of the program answers, or is plain Lean; its conditions stand in each statement. -/
import Derived.Test.YtblgdfamomlklaaPtAA
import Derived.Test.YtblgdfamomlklaaPtAB
import Derived.Test.YtblgdfamomlklaaPtAC
import Derived.Test.YtblgdfamomlklaaPtAD
import Derived.Test.YtblgdfamomlklaaPtAE
import Derived.Test.YtblgdfamomlklaaPtAF
import Derived.Test.YtblgdfamomlklaaPtAJ
import Derived.Test.YtblgdfamomlklaaPtAK
import Derived.Test.YtblgdfamomlklaaPtAN
set_option linter.unusedVariables false
/- The law CtrPieces. -/
namespace Go.Proofs.Ytblgdfamomlklaa
open Go.RowKit

theorem kst_mid (B : Nat → List UInt8) (p n f r : Nat) (h : f + r ≤ n) : kst B (p + f) r = ((kst B p n).drop f).take r := by
  apply List.ext_getElem?
  intro i
  by_cases hi : i < r
  · rw [kst_get _ _ _ _ hi, List.getElem?_take, if_pos hi, List.getElem?_drop, kst_get _ _ _ _ (by omega), Nat.add_assoc]
  · rw [List.getElem?_eq_none (by rw [kst_len]; omega), List.getElem?_eq_none (by rw [List.length_take]; omega)]
theorem stE_mid {x : Int} {n f r : Nat} (h : stE x n = 0) (hf : f + r ≤ n) : stE (x + f) r = 0 := by
  have := stE_le h
  unfold stE
  rw [if_neg (by omega), if_neg (by omega)]
theorem apL_mid (key : List UInt8) {x : Int} {l : List UInt8} {f r : Nat} (h : stE x l.length = 0) (hf : f + r ≤ l.length) : apL key (x + f) ((l.drop f).take r) = ((apL key x l).drop f).take r := by
  have hl : ((l.drop f).take r).length = r := mid_len hf
  have hx := (stE_le h).1
  rw [apL_ok (by rw [hl]; exact stE_mid h hf), apL_ok h, hl, show (x + (f : Int)).toNat = x.toNat + f by omega, kst_mid (ksB key) x.toNat l.length f r hf]
  unfold xobL
  rw [List.drop_zipWith, List.take_zipWith]

set_option maxRecDepth 100000 in
set_option maxHeartbeats 8000000 in
theorem pieces_walk (key : List UInt8) (hkl : key.length = 16) (x : Int) (a : Option Addr) (n c : Nat) (l : List UInt8) (a1 : Option Addr) (n1 c1 : Nat) (zs : List Int) (w : World) (ha : BLies w a l) (hl : l.length = n) (hnc : n ≤ c) (hz : Lies w a1 (IV zs)) (hzl : zs.length = n1) (hn : n ≤ 1048576) (hn1 : n1 ≤ 1048576) :
    Calls Try.prog 11 #[aggB key, .int .i64 x, .slice a n c, .slice a1 n1 c1] w fun e w' => e = .returned (.bool true) ∧ w.grownBy w' none := by
  have HA := Lib.hid ha
  have HL := Lib.hid hl
  have HZ := Lib.hid hz
  have HZL := Lib.hid hzl
  clear ha hl hz hzl
  obtain ⟨E, hE⟩ : ∃ E, E = stE x (n : Int) := ⟨_, rfl⟩
  obtain ⟨X, hX⟩ : ∃ X, X = apL key x l := ⟨_, rfl⟩
  have hap0 : ∀ u, BLies u a l → Calls Try.prog 19 #[aggB key, .int .i64 x, .slice a n c] u fun e w' => ∃ a' n' c', e = .returned (.tuple #[.slice a' n' c', .int .i64 E]) ∧ BOwn w' u.heap.size a' n' c' X ∧ u.grownBy w' none := fun u h => by
    rw [hE, hX]
    exact apply_n key hkl x a n c l HL.out (by omega) u h
  have hx0 : E ≠ 0 → X = [] := fun h => by rw [hX, apL_bad (by rw [HL.out, ← hE]; exact h)]
  have hxn : E = 0 → X.length = n := fun h => by rw [hX, apL_len (by rw [HL.out, ← hE]; exact h), HL.out]
  have hxb : E = 0 → 0 ≤ x ∧ x + n ≤ 4611686018427387904 := fun h => stE_le (by rw [← hE]; exact h)
  have hap : E = 0 → ∀ (u : World) (f r : Nat) (y : Int) (a2 : Option Addr) (c2 : Nat), f + r ≤ n → y = x + (f : Int) → BLies u a2 ((l.drop f).take r) → Calls Try.prog 19 #[aggB key, .int .i64 y, .slice a2 r c2] u fun e w' => ∃ a' c', e = .returned (.tuple #[.slice a' r c', .int .i64 0]) ∧ BOwn w' u.heap.size a' r c' ((X.drop f).take r) ∧ u.grownBy w' none := fun h0 u f r y a2 c2 hf hy hb => by
    subst hy
    have h1 : stE x l.length = 0 := by rw [HL.out, ← hE]; exact h0
    have hfl : f + r ≤ l.length := by rw [HL.out]; exact hf
    refine (apply_n key hkl (x + f) a2 r c2 _ (mid_len hfl) (by omega) u hb).mono ?_
    rintro e w' ⟨a', n', c', rfl, ho, hg⟩
    rw [apL_mid key h1 hfl, ← hX] at ho
    have e1 := ho.len
    rw [mid_len (by rw [hxn h0]; exact hf)] at e1
    subst e1
    exact ⟨a', c', by rw [stE_mid (by rw [← hE]; exact h0) hf], ho, hg⟩
  have hnx : E = 0 → ∀ (u : World) (f r : Nat) (y : Int) (g : Nat) (a2 : Option Addr) (c2 : Nat), f + r ≤ n → y = x + (f : Int) → CipC u g key y → BLies u a2 ((l.drop f).take r) → Calls Try.prog 31 #[.pointer (some ⟨g, 0, none⟩), .slice a2 r c2] u fun e w' => ∃ a' c', e = .returned (.tuple #[.slice a' r c', .int .i64 0]) ∧ BOwn w' u.heap.size a' r c' ((X.drop f).take r) ∧ CipC w' g key (x + ((f + r : Nat) : Int)) ∧ u.grownBy w' (some g) := fun h0 u f r y g a2 c2 hf hy hc hb => by
    subst hy
    have h1 : stE x l.length = 0 := by rw [HL.out, ← hE]; exact h0
    have hfl : f + r ≤ l.length := by rw [HL.out]; exact hf
    have h2 := stE_mid (x := x) (by rw [← hE]; exact h0) hf
    refine (next_n key hkl g (x + f) a2 r c2 _ (mid_len hfl) (by omega) u hc hb).mono ?_
    rintro e w' ⟨a', n', c', rfl, ho, hcc, hg⟩
    rw [apL_mid key h1 hfl, ← hX] at ho
    have e1 := ho.len
    rw [mid_len (by rw [hxn h0]; exact hf)] at e1
    subst e1
    rw [nxP, if_pos h2, show x + (f : Int) + (r : Int) = x + ((f + r : Nat) : Int) by omega] at hcc
    exact ⟨a', c', by rw [h2], ho, hcc, hg⟩
  unfold aggB at *
  have HAP0 := Lib.hid hap0
  have HX0 := Lib.hid hx0
  have HXN := Lib.hid hxn
  have HXB0 := Lib.hid hxb
  have HAPE := Lib.hid hap
  have HNXE := Lib.hid hnx
  clear hap0 hx0 hxn hxb hap hnx hE hX
  go_enter Try.func11, Try.ntmps11
  go_upto_region 1 with (refine wpList_boxed rfl rfl (cellsB key) rfl ?_; intro w1 hs1 hg1 hr1; have HG1 := Lib.hid hg1; have HKN := Lib.hid hr1.lt; have HKY := Lib.hid hr1; clear hs1 hg1 hr1)
  have HG := Lib.hid (World.grownBy.refl w1 none)
  go_wp2_with fail
  refine (awake_n _).mono ?_
  rintro e w2 ⟨rfl, g⟩
  replace HG := Lib.hid (grownBy_trans HG.out g)
  replace HKY := Lib.hid (HKY.out.grown g)
  clear g
  go_upto_region 4 with (first
    | (refine wpList_load_row rfl 27 _ rfl w.heap.size rfl 27 (cellsB key) (0, 0) _ HKY.out Try.underlying27 rfl (by rw [cellsB_size, hkl]; kernel_rfl) ?_)
    | (go_at_call 19; refine (HAP0.out _ (HA.out.grown (grownBy_trans HG1.out HG.out))).mono ?_; rintro e w3 ⟨aX, nX, cX, rfl, ho, g⟩; have HX := Lib.hid (ho.mono HG.out.size); replace HG := Lib.hid (grownBy_trans HG.out g); replace HKY := Lib.hid (HKY.out.grown g); clear ho g))
  by_cases he : E ≠ 0
  · have hd : decide (E = 0) = false := decide_eq_false he
    have hd2 : (E != 0) = true := by simpa using he
    have h0 : nX = 0 := by have := HX.out.len; rw [HX0.out he] at this; exact this.symm
    subst h0
    by_cases hb : 3000 < n
    · have hb1 : decide ((3000 : Int) < (n : Int)) = true := decide_eq_true (by omega)
      have hb2 : decide (3000 < n) = true := decide_eq_true hb
      go_wp2_with fail
      go_ret
      exact ⟨rfl, grownBy_trans HG1.out HG.out⟩
    · have hb1 : decide ((3000 : Int) < (n : Int)) = false := decide_eq_false (by omega)
      have hb2 : decide (3000 < n) = false := decide_eq_false hb
      go_wp2_with fail
      go_ret
      exact ⟨rfl, grownBy_trans HG1.out HG.out⟩
  replace he := Decidable.not_not.1 he
  subst he
  have HAP := Lib.hid (HAPE.out rfl)
  have HNX := Lib.hid (HNXE.out rfl)
  have HXB := Lib.hid (HXB0.out rfl)
  have HXL := Lib.hid (HXN.out rfl)
  obtain rfl : nX = n := by have := HX.out.len; have := HXL.out; omega
  by_cases hb : 3000 < nX
  · have hb1 : decide ((3000 : Int) < (nX : Int)) = true := decide_eq_true (by omega)
    have hb2 : decide (3000 < nX) = true := decide_eq_true hb
    go_wp2_with fail
    go_ret
    exact ⟨rfl, grownBy_trans HG1.out HG.out⟩
  have hb1 : decide ((3000 : Int) < (nX : Int)) = false := decide_eq_false (by omega)
  have hb2 : decide (3000 < nX) = false := decide_eq_false hb
  clear HAPE HNXE HXB0 HXN HX0 HAP0
  go_upto_region 7 with (first
    | (refine wpList_load_row rfl 27 _ rfl w.heap.size rfl 27 (cellsB key) (0, 0) _ HKY.out Try.underlying27 rfl (by rw [cellsB_size, hkl]; kernel_rfl) ?_)
    | (go_at_call 28; refine (newc_n key hkl _).mono ?_; rintro e w4 ⟨gC, rfl, hcc, hcb, g⟩; have HC := Lib.hid hcc; have HGC1 := Lib.hid (Nat.le_trans HG.out.size hcb); replace HG := Lib.hid (grownBy_trans HG.out g); replace HKY := Lib.hid (HKY.out.grown g); replace HX := Lib.hid (HX.out.grown g); clear hcc hcb g))
  go_wp2_with fail
  refine (seek_n key hkl gC 0 x _ HC.out).mono ?_
  rintro e w5 ⟨rfl, hcc, hg5⟩
  have hse : skE x = 0 := if_neg (by have := HXB.out; omega)
  have hsp : skP 0 x = x := if_neg (by have := HXB.out; omega)
  rw [hsp] at hcc
  rw [hse]
  have HX5 := Lib.hid (own_cip HC.out HX.out hg5)
  have HKY5 := Lib.hid (HKY.out.grownNe hg5 (fun e => by have h1 := HKN.out; have h2 := HGC1.out; omega))
  have HG5 := Lib.hid (grownBy_old HG.out hg5 HGC1.out)
  have HC5 := Lib.hid hcc
  clear hse hsp hcc hg5 HC HX HKY HG hb1 hb2
  obtain ⟨B, hB⟩ : ∃ B, B = w5.heap.size := ⟨_, rfl⟩
  have HGL := Lib.hid (show gC < B by rw [hB]; exact HC5.out.lt)
  have hBl : B ≤ w5.heap.size := by rw [hB]; exact Nat.le_refl _
  have HBL := Lib.hid hBl
  clear hB hBl
  go_wp2_with fail
  go_loopw [12, 13, 14, 15] (fun vp vq vf vi wr => ∃ (k f : Nat) (aP : Option Addr) (cP : Nat) (aQ : Option Addr) (cQ : Nat) (ps qs : List (List UInt8)) (LP LQ : List Sl), k ≤ n1 + 1 ∧ f ≤ nX ∧ vi = .int .i64 k ∧ vf = .int .i64 f ∧ vp = .slice aP k cP ∧ vq = .slice aQ k cQ ∧
      Pcs wr B aP k cP ps LP ∧ Pcs wr B aQ k cQ qs LQ ∧ ps.flatten = X.take f ∧ qs.flatten = X.take f ∧ ps.length = k ∧ qs.length = k ∧ CipC wr gC key (x + (f : Int)) ∧ (∀ g, In aP cP g → ¬ In aQ cQ g) ∧ Row wr w.heap.size 27 (cellsB key) ∧ BOwn wr w1.heap.size aX nX cX X ∧ w1.grownBy wr none ∧ B ≤ wr.heap.size ∧ (k = n1 + 1 → f = nX)) (fun _ _ _ vi _ => n1 + 1 - (intOf vi).toNat)
  case atStart => exact ⟨0, 0, none, 0, none, 0, [], [], [], [], Nat.zero_le _, Nat.zero_le _, rfl, rfl, rfl, rfl, Pcs.nil _ _, Pcs.nil _ _, by simp, by simp, rfl, rfl, by simpa using HC5.out, fun g h => absurd h.1 (by omega), HKY5.out, HX5.out, HG5.out, HBL.out, fun h => by omega⟩
  case round =>
    obtain ⟨k, f, aP, cP, aQ, cQ, ps, qs, LP, LQ, hk, hf, rfl, rfl, rfl, rfl, hpp, hqq, hpf, hqf, hpl, hql, hc, hd, hky, hx, hg, hbs, hend⟩ := hrel
    have HPP := Lib.hid hpp
    have HQQ := Lib.hid hqq
    have HPF := Lib.hid hpf
    have HQF := Lib.hid hqf
    have HPL := Lib.hid hpl
    have HQL := Lib.hid hql
    have HC := Lib.hid hc
    have HD := Lib.hid hd
    have HKY := Lib.hid hky
    have HX := Lib.hid hx
    have HG := Lib.hid hg
    have HBS := Lib.hid hbs
    have HEND := Lib.hid hend
    clear hpp hqq hpf hqf hpl hql hc hd hky hx hg hbs hend HC5 HKY5 HX5 HG5 HBL
    obtain ⟨n, hnn⟩ : ∃ n, n = nX := ⟨_, rfl⟩
    subst hnn
    have hw1 : wrap64 ((n : Int) - (f : Int)) = ((n - f : Nat) : Int) := by rw [IntWalk.wrap64_in _ (by omega)]; omega
    have hw1' : IntKind.i64.wrap ((n : Int) - (f : Int)) = ((n - f : Nat) : Int) := by rw [IntWalk.i64_in _ (by omega)]; omega
    have HW5 := Lib.hid hw1
    have HW6 := Lib.hid hw1'
    clear hw1 hw1'
    by_cases hlt : k < n1
    · have hzk : k < zs.length := by rw [HZL.out]; exact hlt
      obtain ⟨b, o, haa, hcz⟩ := HZ.out k (by unfold IV; rw [List.length_map]; exact hzk)
      obtain ⟨z, hz⟩ : ∃ z, z = zs[k] := ⟨_, rfl⟩
      have hcw : wr.cell? ⟨b, o + k, none⟩ = some (.int .i64 z) := by
        rw [hz]
        have h1 := World.block_lt_of_cell? _ _ hcz
        refine (World.cell?_of_block ((grownBy_trans HG1.out HG.out).block b h1 (by simp))).trans (hcz.trans ?_)
        simp [IV]
      subst haa
      clear hz hcz
      have hk1 : decide ((k : Int) ≤ (n1 : Int)) = true := decide_eq_true (by omega)
      have hk2 : decide (k ≤ n1) = true := decide_eq_true (by omega)
      have hk3 : decide ((k : Int) < (n1 : Int)) = true := decide_eq_true (by omega)
      have hk4 : decide (k < n1) = true := decide_eq_true hlt
      have HW7 := Lib.hid (show wrap64 (((n - f : Nat) : Int) + 1) = ((n - f + 1 : Nat) : Int) by rw [IntWalk.wrap64_in _ (by omega)]; omega)
      have HPK := Lib.hid (fun u => pick_n z ((n - f + 1 : Nat) : Int) (by omega) (by omega) u)
      have hw5 := HW5.out
      have hw6 := HW6.out
      have hw7 := HW7.out
      go_wp2_with fail
      refine (HPK.out _).mono ?_
      rintro e w' ⟨⟨r, rfl, hrr⟩, rfl⟩
      clear hw5 hw6 hw7 HPK
      have hfr : f + r ≤ n := by omega
      have HFE : Hid (k + 1 = n1 + 1 → f + r = n) := Lib.hid (fun h => by omega)
      clear hrr
      have hfrb : f + r ≤ 3000 := by omega
      have HYB := Lib.hid (show -9223372036854775808 ≤ x + (f : Int) ∧ x + (f : Int) ≤ 9223372036854775807 by have := HXB.out; omega)
      obtain ⟨y, hy⟩ : ∃ y, y = x + (f : Int) := ⟨_, rfl⟩
      have HYE := Lib.hid hy
      have HW1 := Lib.hid (show wrap64 (x + (f : Int)) = y by rw [IntWalk.wrap64_in _ HYB.out, hy])
      have HW2 := Lib.hid (show IntKind.i64.wrap (x + (f : Int)) = y by rw [IntWalk.i64_in _ HYB.out, hy])
      have HW3 := Lib.hid (show wrap64 ((f : Int) + (r : Int)) = ((f + r : Nat) : Int) by rw [IntWalk.wrap64_in _ (by omega)]; omega)
      have HW4 := Lib.hid (i64_small ((f : Int) + (r : Int)) (by omega) (by omega))
      rw [← hy] at HC
      clear hy
      go_upto_region 17 with fail
      refine wp_regionX (fun u => wr.grownBy u none) 15 (by kernel_rfl) (grownBy_drewN wr 1 none) ?_
      refine wpX_take 0 (v := .agg (cellsB key)) (oi := { dst := some 73, op := Op.load 27 (Operand.tmp 4), type := 27, pos := "outright.go:64", after := #[], guard := none }) (oL := { dst := some 18, op := Op.assign (Operand.tmp 85), type := 36, pos := "outright.go:64", after := #[{ on := 13, ground := Ground.data }, { on := 14, ground := Ground.chain }, { on := 0, ground := Ground.phase }, { on := 1, ground := Ground.phase }, { on := 2, ground := Ground.phase }, { on := 3, ground := Ground.phase }, { on := 4, ground := Ground.phase }, { on := 5, ground := Ground.phase }, { on := 6, ground := Ground.phase }, { on := 7, ground := Ground.phase }, { on := 8, ground := Ground.phase }, { on := 9, ground := Ground.phase }, { on := 10, ground := Ground.phase }, { on := 11, ground := Ground.phase }, { on := 12, ground := Ground.phase }, { on := 13, ground := Ground.phase }, { on := 14, ground := Ground.phase }], guard := none }) (clo_grown _) rfl rfl rfl (by kernel_rfl) (by kernel_rfl) (by kernel_rfl) (by kernel_rfl) (by kernel_rfl) (fun _ _ _ h => h) (YG.val (by rfl) (fun u hu => run_load_op u _ 27 (.tmp 4) rfl w.heap.size rfl 27 (cellsB key) (HKY.out.grown hu) Try.underlying27 rfl (by rw [cellsB_size, hkl]; kernel_rfl))) ?_
      simp only [Act.put, List.setIfInBounds_toArray, List.set_cons_zero, List.set_cons_succ]
      refine wpX_take 1 (v := .int .i64 x) (oi := { dst := some 74, op := Op.move (Operand.tmp 1), type := 3, pos := "outright.go:64", after := #[], guard := none }) (oL := { dst := some 18, op := Op.assign (Operand.tmp 85), type := 36, pos := "outright.go:64", after := #[{ on := 13, ground := Ground.data }, { on := 14, ground := Ground.chain }, { on := 0, ground := Ground.phase }, { on := 1, ground := Ground.phase }, { on := 2, ground := Ground.phase }, { on := 3, ground := Ground.phase }, { on := 4, ground := Ground.phase }, { on := 5, ground := Ground.phase }, { on := 6, ground := Ground.phase }, { on := 7, ground := Ground.phase }, { on := 8, ground := Ground.phase }, { on := 9, ground := Ground.phase }, { on := 10, ground := Ground.phase }, { on := 11, ground := Ground.phase }, { on := 12, ground := Ground.phase }, { on := 13, ground := Ground.phase }, { on := 14, ground := Ground.phase }], guard := none }) (clo_grown _) rfl rfl rfl (by kernel_rfl) (by kernel_rfl) (by kernel_rfl) (by kernel_rfl) (by kernel_rfl) (fun _ _ _ h => h) (YG.val (by rfl) (fun _ _ => rfl)) ?_
      simp only [Act.put, List.setIfInBounds_toArray, List.set_cons_zero, List.set_cons_succ]
      refine wpX_take 2 (v := .int .i64 (f : Int)) (oi := { dst := some 75, op := Op.move (Operand.tmp 14), type := 3, pos := "outright.go:64", after := #[], guard := none }) (oL := { dst := some 18, op := Op.assign (Operand.tmp 85), type := 36, pos := "outright.go:64", after := #[{ on := 13, ground := Ground.data }, { on := 14, ground := Ground.chain }, { on := 0, ground := Ground.phase }, { on := 1, ground := Ground.phase }, { on := 2, ground := Ground.phase }, { on := 3, ground := Ground.phase }, { on := 4, ground := Ground.phase }, { on := 5, ground := Ground.phase }, { on := 6, ground := Ground.phase }, { on := 7, ground := Ground.phase }, { on := 8, ground := Ground.phase }, { on := 9, ground := Ground.phase }, { on := 10, ground := Ground.phase }, { on := 11, ground := Ground.phase }, { on := 12, ground := Ground.phase }, { on := 13, ground := Ground.phase }, { on := 14, ground := Ground.phase }], guard := none }) (clo_grown _) rfl rfl rfl (by kernel_rfl) (by kernel_rfl) (by kernel_rfl) (by kernel_rfl) (by kernel_rfl) (fun _ _ _ h => h) (YG.val (by rfl) (fun _ _ => rfl)) ?_
      simp only [Act.put, List.setIfInBounds_toArray, List.set_cons_zero, List.set_cons_succ]
      refine wpX_take 3 (v := .int .i64 y) (oi := { dst := some 76, op := Op.binOp BinOp.add 3 (Operand.tmp 74) (Operand.tmp 75) 3, type := 3, pos := "outright.go:64", after := #[{ on := 1, ground := Ground.data }, { on := 2, ground := Ground.data }], guard := none }) (oL := { dst := some 18, op := Op.assign (Operand.tmp 85), type := 36, pos := "outright.go:64", after := #[{ on := 13, ground := Ground.data }, { on := 14, ground := Ground.chain }, { on := 0, ground := Ground.phase }, { on := 1, ground := Ground.phase }, { on := 2, ground := Ground.phase }, { on := 3, ground := Ground.phase }, { on := 4, ground := Ground.phase }, { on := 5, ground := Ground.phase }, { on := 6, ground := Ground.phase }, { on := 7, ground := Ground.phase }, { on := 8, ground := Ground.phase }, { on := 9, ground := Ground.phase }, { on := 10, ground := Ground.phase }, { on := 11, ground := Ground.phase }, { on := 12, ground := Ground.phase }, { on := 13, ground := Ground.phase }, { on := 14, ground := Ground.phase }], guard := none }) (clo_grown _) rfl rfl rfl (by kernel_rfl) (by kernel_rfl) (by kernel_rfl) (by kernel_rfl) (by kernel_rfl) (fun _ _ _ h => h) (YG.val (by rfl) (fun _ _ => by have h1 := HW1.out; have h2 := HW2.out; go_simp)) ?_
      simp only [Act.put, List.setIfInBounds_toArray, List.set_cons_zero, List.set_cons_succ]
      refine wpX_take 4 (v := .slice a n c) (oi := { dst := some 77, op := Op.move (Operand.tmp 2), type := 34, pos := "outright.go:64", after := #[], guard := none }) (oL := { dst := some 18, op := Op.assign (Operand.tmp 85), type := 36, pos := "outright.go:64", after := #[{ on := 13, ground := Ground.data }, { on := 14, ground := Ground.chain }, { on := 0, ground := Ground.phase }, { on := 1, ground := Ground.phase }, { on := 2, ground := Ground.phase }, { on := 3, ground := Ground.phase }, { on := 4, ground := Ground.phase }, { on := 5, ground := Ground.phase }, { on := 6, ground := Ground.phase }, { on := 7, ground := Ground.phase }, { on := 8, ground := Ground.phase }, { on := 9, ground := Ground.phase }, { on := 10, ground := Ground.phase }, { on := 11, ground := Ground.phase }, { on := 12, ground := Ground.phase }, { on := 13, ground := Ground.phase }, { on := 14, ground := Ground.phase }], guard := none }) (clo_grown _) rfl rfl rfl (by kernel_rfl) (by kernel_rfl) (by kernel_rfl) (by kernel_rfl) (by kernel_rfl) (fun _ _ _ h => h) (YG.val (by rfl) (fun _ _ => rfl)) ?_
      simp only [Act.put, List.setIfInBounds_toArray, List.set_cons_zero, List.set_cons_succ]
      refine wpX_take 5 (v := .int .i64 (f : Int)) (oi := { dst := some 78, op := Op.move (Operand.tmp 14), type := 3, pos := "outright.go:64", after := #[], guard := none }) (oL := { dst := some 18, op := Op.assign (Operand.tmp 85), type := 36, pos := "outright.go:64", after := #[{ on := 13, ground := Ground.data }, { on := 14, ground := Ground.chain }, { on := 0, ground := Ground.phase }, { on := 1, ground := Ground.phase }, { on := 2, ground := Ground.phase }, { on := 3, ground := Ground.phase }, { on := 4, ground := Ground.phase }, { on := 5, ground := Ground.phase }, { on := 6, ground := Ground.phase }, { on := 7, ground := Ground.phase }, { on := 8, ground := Ground.phase }, { on := 9, ground := Ground.phase }, { on := 10, ground := Ground.phase }, { on := 11, ground := Ground.phase }, { on := 12, ground := Ground.phase }, { on := 13, ground := Ground.phase }, { on := 14, ground := Ground.phase }], guard := none }) (clo_grown _) rfl rfl rfl (by kernel_rfl) (by kernel_rfl) (by kernel_rfl) (by kernel_rfl) (by kernel_rfl) (fun _ _ _ h => h) (YG.val (by rfl) (fun _ _ => rfl)) ?_
      simp only [Act.put, List.setIfInBounds_toArray, List.set_cons_zero, List.set_cons_succ]
      refine wpX_take 6 (v := .int .i64 (f : Int)) (oi := { dst := some 79, op := Op.move (Operand.tmp 14), type := 3, pos := "outright.go:64", after := #[], guard := none }) (oL := { dst := some 18, op := Op.assign (Operand.tmp 85), type := 36, pos := "outright.go:64", after := #[{ on := 13, ground := Ground.data }, { on := 14, ground := Ground.chain }, { on := 0, ground := Ground.phase }, { on := 1, ground := Ground.phase }, { on := 2, ground := Ground.phase }, { on := 3, ground := Ground.phase }, { on := 4, ground := Ground.phase }, { on := 5, ground := Ground.phase }, { on := 6, ground := Ground.phase }, { on := 7, ground := Ground.phase }, { on := 8, ground := Ground.phase }, { on := 9, ground := Ground.phase }, { on := 10, ground := Ground.phase }, { on := 11, ground := Ground.phase }, { on := 12, ground := Ground.phase }, { on := 13, ground := Ground.phase }, { on := 14, ground := Ground.phase }], guard := none }) (clo_grown _) rfl rfl rfl (by kernel_rfl) (by kernel_rfl) (by kernel_rfl) (by kernel_rfl) (by kernel_rfl) (fun _ _ _ h => h) (YG.val (by rfl) (fun _ _ => rfl)) ?_
      simp only [Act.put, List.setIfInBounds_toArray, List.set_cons_zero, List.set_cons_succ]
      refine wpX_take 7 (v := .int .i64 (r : Int)) (oi := { dst := some 80, op := Op.move (Operand.tmp 16), type := 3, pos := "outright.go:64", after := #[], guard := none }) (oL := { dst := some 18, op := Op.assign (Operand.tmp 85), type := 36, pos := "outright.go:64", after := #[{ on := 13, ground := Ground.data }, { on := 14, ground := Ground.chain }, { on := 0, ground := Ground.phase }, { on := 1, ground := Ground.phase }, { on := 2, ground := Ground.phase }, { on := 3, ground := Ground.phase }, { on := 4, ground := Ground.phase }, { on := 5, ground := Ground.phase }, { on := 6, ground := Ground.phase }, { on := 7, ground := Ground.phase }, { on := 8, ground := Ground.phase }, { on := 9, ground := Ground.phase }, { on := 10, ground := Ground.phase }, { on := 11, ground := Ground.phase }, { on := 12, ground := Ground.phase }, { on := 13, ground := Ground.phase }, { on := 14, ground := Ground.phase }], guard := none }) (clo_grown _) rfl rfl rfl (by kernel_rfl) (by kernel_rfl) (by kernel_rfl) (by kernel_rfl) (by kernel_rfl) (fun _ _ _ h => h) (YG.val (by rfl) (fun _ _ => rfl)) ?_
      simp only [Act.put, List.setIfInBounds_toArray, List.set_cons_zero, List.set_cons_succ]
      refine wpX_take 8 (v := .int .i64 ((f + r : Nat) : Int)) (oi := { dst := some 81, op := Op.binOp BinOp.add 3 (Operand.tmp 79) (Operand.tmp 80) 3, type := 3, pos := "outright.go:64", after := #[{ on := 6, ground := Ground.data }, { on := 7, ground := Ground.data }], guard := none }) (oL := { dst := some 18, op := Op.assign (Operand.tmp 85), type := 36, pos := "outright.go:64", after := #[{ on := 13, ground := Ground.data }, { on := 14, ground := Ground.chain }, { on := 0, ground := Ground.phase }, { on := 1, ground := Ground.phase }, { on := 2, ground := Ground.phase }, { on := 3, ground := Ground.phase }, { on := 4, ground := Ground.phase }, { on := 5, ground := Ground.phase }, { on := 6, ground := Ground.phase }, { on := 7, ground := Ground.phase }, { on := 8, ground := Ground.phase }, { on := 9, ground := Ground.phase }, { on := 10, ground := Ground.phase }, { on := 11, ground := Ground.phase }, { on := 12, ground := Ground.phase }, { on := 13, ground := Ground.phase }, { on := 14, ground := Ground.phase }], guard := none }) (clo_grown _) rfl rfl rfl (by kernel_rfl) (by kernel_rfl) (by kernel_rfl) (by kernel_rfl) (by kernel_rfl) (fun _ _ _ h => h) (YG.val (by rfl) (fun _ _ => by have h1 := HW3.out; have h2 := HW4.out; go_simp; try exact h2)) ?_
      simp only [Act.put, List.setIfInBounds_toArray, List.set_cons_zero, List.set_cons_succ]
      refine wpX_take 9 (v := .slice (midA a f c) r (c - f)) (oi := { dst := some 82, op := Op.slice 34 (Operand.tmp 77) (some (Operand.tmp 78)) (some (Operand.tmp 81)) none, type := 34, pos := "outright.go:64", after := #[{ on := 4, ground := Ground.data }, { on := 5, ground := Ground.data }, { on := 8, ground := Ground.data }], guard := none }) (oL := { dst := some 18, op := Op.assign (Operand.tmp 85), type := 36, pos := "outright.go:64", after := #[{ on := 13, ground := Ground.data }, { on := 14, ground := Ground.chain }, { on := 0, ground := Ground.phase }, { on := 1, ground := Ground.phase }, { on := 2, ground := Ground.phase }, { on := 3, ground := Ground.phase }, { on := 4, ground := Ground.phase }, { on := 5, ground := Ground.phase }, { on := 6, ground := Ground.phase }, { on := 7, ground := Ground.phase }, { on := 8, ground := Ground.phase }, { on := 9, ground := Ground.phase }, { on := 10, ground := Ground.phase }, { on := 11, ground := Ground.phase }, { on := 12, ground := Ground.phase }, { on := 13, ground := Ground.phase }, { on := 14, ground := Ground.phase }], guard := none }) (clo_grown _) rfl rfl rfl (by kernel_rfl) (by kernel_rfl) (by kernel_rfl) (by kernel_rfl) (by kernel_rfl) (fun _ _ _ h => h) (YG.val (by rfl) (fun u _ => run_mid_op2 u _ (.tmp 77) (.tmp 78) (.tmp 81) rfl a n c f r rfl rfl rfl (by omega))) ?_
      simp only [Act.put, List.setIfInBounds_toArray, List.set_cons_zero, List.set_cons_succ]
      refine wpX_step 10 (o := { dst := some 83, op := Op.call { callee := Callee.value (Operand.func 19), args := #[Operand.tmp 73, Operand.tmp 76, Operand.tmp 82], argTypes := #[27, 3, 34] }, type := 37, pos := "outright.go:64", after := #[{ on := 0, ground := Ground.data }, { on := 3, ground := Ground.data }, { on := 9, ground := Ground.data }], guard := none }) rfl rfl (by kernel_rfl) (by rfl) (fun u2 hS2 K hK => ?_)
      have HK := Lib.hid hK
      have HS2 := Lib.hid hS2
      clear hK hS2
      refine wp_call_op (f := 19) (args := #[.agg (cellsB key), .int .i64 y, .slice (midA a f c) r (c - f)]) (w1 := u2) (by go_simp) ((HAP.out u2 f r y _ _ hfr HYE.out (mid_lies (HA.out.grown (grownBy_trans (grownBy_trans HG1.out HG.out) HS2.out)) f r c (by rw [HL.out]; exact hfr) (by rw [HL.out]; exact hnc))).mono ?_)
      rintro e u3 ⟨a5, c5, rfl, ho, hg⟩
      refine ⟨_, rfl, HK.out (fun u => u3.grownBy u none) _ _ (World.grownBy.refl _ _) (fun u h => grownBy_trans (grownBy_trans HS2.out hg) h) (clo_grown u3) ?_⟩
      simp only [Act.put, List.setIfInBounds_toArray, List.set_cons_zero, List.set_cons_succ]
      refine wpX_take 11 (v := .tuple #[.slice a5 r c5, .int .i64 0]) (oi := { dst := some 72, op := Op.move (Operand.tmp 83), type := 37, pos := "outright.go:64", after := #[{ on := 10, ground := Ground.data }], guard := none }) (oL := { dst := some 18, op := Op.assign (Operand.tmp 85), type := 36, pos := "outright.go:64", after := #[{ on := 13, ground := Ground.data }, { on := 14, ground := Ground.chain }, { on := 0, ground := Ground.phase }, { on := 1, ground := Ground.phase }, { on := 2, ground := Ground.phase }, { on := 3, ground := Ground.phase }, { on := 4, ground := Ground.phase }, { on := 5, ground := Ground.phase }, { on := 6, ground := Ground.phase }, { on := 7, ground := Ground.phase }, { on := 8, ground := Ground.phase }, { on := 9, ground := Ground.phase }, { on := 10, ground := Ground.phase }, { on := 11, ground := Ground.phase }, { on := 12, ground := Ground.phase }, { on := 13, ground := Ground.phase }, { on := 14, ground := Ground.phase }], guard := none }) (clo_grown _) rfl rfl rfl (by kernel_rfl) (by kernel_rfl) (by kernel_rfl) (by kernel_rfl) (by kernel_rfl) (fun _ _ _ h => h) (YG.val (by rfl) (fun _ _ => rfl)) ?_
      simp only [Act.put, List.setIfInBounds_toArray, List.set_cons_zero, List.set_cons_succ]
      refine wpX_take 12 (v := .slice a5 r c5) (oi := { dst := some 84, op := Op.extract (Operand.tmp 72) 0, type := 34, pos := "outright.go:64", after := #[{ on := 11, ground := Ground.data }], guard := none }) (oL := { dst := some 18, op := Op.assign (Operand.tmp 85), type := 36, pos := "outright.go:64", after := #[{ on := 13, ground := Ground.data }, { on := 14, ground := Ground.chain }, { on := 0, ground := Ground.phase }, { on := 1, ground := Ground.phase }, { on := 2, ground := Ground.phase }, { on := 3, ground := Ground.phase }, { on := 4, ground := Ground.phase }, { on := 5, ground := Ground.phase }, { on := 6, ground := Ground.phase }, { on := 7, ground := Ground.phase }, { on := 8, ground := Ground.phase }, { on := 9, ground := Ground.phase }, { on := 10, ground := Ground.phase }, { on := 11, ground := Ground.phase }, { on := 12, ground := Ground.phase }, { on := 13, ground := Ground.phase }, { on := 14, ground := Ground.phase }], guard := none }) (clo_grown _) rfl rfl rfl (by kernel_rfl) (by kernel_rfl) (by kernel_rfl) (by kernel_rfl) (by kernel_rfl) (fun _ _ _ h => h) (YG.val (by rfl) (fun _ _ => by go_simp)) ?_
      simp only [Act.put, List.setIfInBounds_toArray, List.set_cons_zero, List.set_cons_succ]
      refine wpX_take 13 (v := .int .i64 0) (oi := { dst := some 85, op := Op.extract (Operand.tmp 72) 1, type := 36, pos := "outright.go:64", after := #[{ on := 11, ground := Ground.data }, { on := 14, ground := Ground.gcOnly Departure.lateStores }], guard := none }) (oL := { dst := some 18, op := Op.assign (Operand.tmp 85), type := 36, pos := "outright.go:64", after := #[{ on := 13, ground := Ground.data }, { on := 14, ground := Ground.chain }, { on := 0, ground := Ground.phase }, { on := 1, ground := Ground.phase }, { on := 2, ground := Ground.phase }, { on := 3, ground := Ground.phase }, { on := 4, ground := Ground.phase }, { on := 5, ground := Ground.phase }, { on := 6, ground := Ground.phase }, { on := 7, ground := Ground.phase }, { on := 8, ground := Ground.phase }, { on := 9, ground := Ground.phase }, { on := 10, ground := Ground.phase }, { on := 11, ground := Ground.phase }, { on := 12, ground := Ground.phase }, { on := 13, ground := Ground.phase }, { on := 14, ground := Ground.phase }], guard := none }) (clo_grown _) rfl rfl rfl (by kernel_rfl) (by kernel_rfl) (by kernel_rfl) (by kernel_rfl) (by kernel_rfl) (fun _ _ _ h => h) (YG.val (by rfl) (fun _ _ => by go_simp)) ?_
      simp only [Act.put, List.setIfInBounds_toArray, List.set_cons_zero, List.set_cons_succ]
      refine wpX_take 14 (v := .slice a5 r c5) (oi := { dst := some 17, op := Op.assign (Operand.tmp 84), type := 34, pos := "outright.go:64", after := #[{ on := 12, ground := Ground.data }, { on := 10, ground := Ground.chain }, { on := 0, ground := Ground.phase }, { on := 1, ground := Ground.phase }, { on := 2, ground := Ground.phase }, { on := 3, ground := Ground.phase }, { on := 4, ground := Ground.phase }, { on := 5, ground := Ground.phase }, { on := 6, ground := Ground.phase }, { on := 7, ground := Ground.phase }, { on := 8, ground := Ground.phase }, { on := 9, ground := Ground.phase }, { on := 10, ground := Ground.phase }, { on := 11, ground := Ground.phase }, { on := 12, ground := Ground.phase }, { on := 13, ground := Ground.textOnly Departure.lateStores }], guard := none }) (oL := { dst := some 18, op := Op.assign (Operand.tmp 85), type := 36, pos := "outright.go:64", after := #[{ on := 13, ground := Ground.data }, { on := 14, ground := Ground.chain }, { on := 0, ground := Ground.phase }, { on := 1, ground := Ground.phase }, { on := 2, ground := Ground.phase }, { on := 3, ground := Ground.phase }, { on := 4, ground := Ground.phase }, { on := 5, ground := Ground.phase }, { on := 6, ground := Ground.phase }, { on := 7, ground := Ground.phase }, { on := 8, ground := Ground.phase }, { on := 9, ground := Ground.phase }, { on := 10, ground := Ground.phase }, { on := 11, ground := Ground.phase }, { on := 12, ground := Ground.phase }, { on := 13, ground := Ground.phase }, { on := 14, ground := Ground.phase }], guard := none }) (clo_grown _) rfl rfl rfl (by kernel_rfl) (by kernel_rfl) (by kernel_rfl) (by kernel_rfl) (by kernel_rfl) (fun _ _ _ h => h) (YG.val (by rfl) (fun _ _ => rfl)) ?_
      simp only [Act.put, List.setIfInBounds_toArray, List.set_cons_zero, List.set_cons_succ]
      refine wpX_last (oL := { dst := some 18, op := Op.assign (Operand.tmp 85), type := 36, pos := "outright.go:64", after := #[{ on := 13, ground := Ground.data }, { on := 14, ground := Ground.chain }, { on := 0, ground := Ground.phase }, { on := 1, ground := Ground.phase }, { on := 2, ground := Ground.phase }, { on := 3, ground := Ground.phase }, { on := 4, ground := Ground.phase }, { on := 5, ground := Ground.phase }, { on := 6, ground := Ground.phase }, { on := 7, ground := Ground.phase }, { on := 8, ground := Ground.phase }, { on := 9, ground := Ground.phase }, { on := 10, ground := Ground.phase }, { on := 11, ground := Ground.phase }, { on := 12, ground := Ground.phase }, { on := 13, ground := Ground.phase }, { on := 14, ground := Ground.phase }], guard := none }) rfl (by kernel_rfl) (by kernel_rfl) (by rfl) (fun u4 hS4 K4 hK4 => ?_)
      refine wp_val_op (v := .int .i64 0) (w1 := u4) (by go_simp) (hK4 _ _ ?_)
      simp only [Act.put, List.setIfInBounds_toArray, List.set_cons_zero, List.set_cons_succ]
      obtain ⟨w3, hw3⟩ : ∃ w3, w3 = u4 := ⟨_, rfl⟩
      have h13 : wr.grownBy u4 none := grownBy_trans (grownBy_trans HS2.out hg) hS4
      have H5 := Lib.hid ((BOwn.grown ho hS4).mono (Nat.le_trans HBS.out HS2.out.size))
      rw [← hw3] at h13 H5 ⊢
      have HG3 := Lib.hid (grownBy_trans HG.out h13)
      have HKY3 := Lib.hid (HKY.out.grown h13)
      have HC3 := Lib.hid (HC.out.grown h13)
      have HX3 := Lib.hid (HX.out.grown h13)
      have HPP3 := Lib.hid (HPP.out.ch (Ch.ofNone h13 (fun _ => False)) (fun _ _ h => h))
      have HQQ3 := Lib.hid (HQQ.out.ch (Ch.ofNone h13 (fun _ => False)) (fun _ _ h => h))
      have HBS3 := Lib.hid (Nat.le_trans HBS.out h13.size)
      have HF3 := Lib.hid (show ∀ g, In aP cP g ∨ In aQ cQ g → g < w3.heap.size from fun g h => h.elim (fun h => (Own.inn HPP3.out.outer h).2) (fun h => (Own.inn HQQ3.out.outer h).2))
      clear hw3 h13 ho hg hS4 HS2 HK hK4
      have hw3 := HW3.out
      go_upto_region 19 with (first
        | (refine wpList_valp rfl (run_mid_op2 _ _ (.tmp 88) (.tmp 89) (.tmp 92) rfl a n c f r rfl rfl rfl (by omega)) ?_)
        | (go_at_call 31; refine (HNX.out _ f r y gC _ _ hfr HYE.out HC3.out (mid_lies (HA.out.grown (grownBy_trans HG1.out HG3.out)) f r c (by rw [HL.out]; exact hfr) (by rw [HL.out]; exact hnc))).mono ?_; rintro e w4 ⟨a6, c6, rfl, ho, hcc, hg⟩; have H6 := Lib.hid (ho.mono HBS3.out); have HC4 := Lib.hid hcc; have HG34 := Lib.hid hg; clear ho hcc hg))
      clear hw3
      have hg4 := HG34.out
      have hgl := HGL.out
      have hch4 : Ch (fun g => g = gC) w3 w4 := Ch.ofSome hg4 rfl
      have HG4 := Lib.hid (grownBy_old HG3.out hg4 HGC1.out)
      have HKY4 := Lib.hid (HKY3.out.grownNe hg4 (fun e => by have h1 := HKN.out; have h2 := HGC1.out; omega))
      have HX4 := Lib.hid (own_cip HC3.out HX3.out hg4)
      have HPP4 := Lib.hid (HPP3.out.ch hch4 (fun g h1 h2 => by omega))
      have HQQ4 := Lib.hid (HQQ3.out.ch hch4 (fun g h1 h2 => by omega))
      have H54 := Lib.hid (own_cip HC3.out H5.out hg4)
      have HBS4 := Lib.hid (Nat.le_trans HBS3.out hg4.size)
      have hbs4 := HBS4.out
      clear hg4 hch4
      go_upto_region 22 with (at_builtin; refine wpList_push elS rfl (.tmp 103) (.tmp 105) rfl rfl HPP4.out.outer (.slice a5 r c5) rfl rfl (by unfold maxLen; omega) (by omega) hbs4 ?_; intro g7 c7 w7 hown7 hgr7; have HO7 := Lib.hid hown7; have HGR7 := Lib.hid hgr7; clear hown7 hgr7)
      have hgr7 := HGR7.out
      have hch7 := hgr7.ch
      have hinP : ∀ g, In aP cP g → B ≤ g ∧ g < w4.heap.size := fun g h => Own.inn HPP4.out.outer h
      have hinQ : ∀ g, In aQ cQ g → B ≤ g ∧ g < w4.heap.size := fun g h => Own.inn HQQ4.out.outer h
      have HP7 := Lib.hid (HPP4.out.push (Nat.le_refl _) H54.out HO7.out hgr7)
      have HQ7 : Hid (Pcs w7 B aQ k cQ qs LQ) := Lib.hid ⟨Own.ch HQQ4.out.outer hch7 (fun h0 g e h => HD.out g h ⟨h0, e⟩), HQQ4.out.len, fun i h1 h2 => Own.grewOther (HQQ4.out.inner i h1 h2) HPP4.out.outer hgr7 (by decide)⟩
      have HD7 : Hid (∀ g, In (some ⟨g7, 0, none⟩) c7 g → ¬ In aQ cQ g) := Lib.hid (fun g h hq => by
        rcases hgr7 with ⟨g1, e1, e2, h3, h4, _⟩ | ⟨g1, e1, h2, _⟩
        · exact HD.out g ⟨h3, e2.trans (by
            have := h.2
            injection this with this; injection this with this
            rw [this])⟩ hq
        · have h5 := (hinQ g hq).2
          have h6 := h.2
          injection h6 with h6; injection h6 with h6
          injection e1 with e1; injection e1 with e1
          omega)
      have HG7 := Lib.hid (Ch.fresh HG4.out hch7 (fun g hg h => by have h1 := (hinP g h).1; have h2 := HGC1.out; have h3 := HGL.out; omega))
      have HC7 := Lib.hid (show CipC w7 gC key (x + ((f + r : Nat) : Int)) from Row.ch (show Row w4 gC _ _ from HC4.out) hch7 (row_in (show Row w4 gC _ _ from HC4.out) HPP4.out.outer (by decide)))
      have HKY7 := Lib.hid (HKY4.out.ch hch7 (row_in HKY4.out HPP4.out.outer (by decide)))
      have HX7 := Lib.hid (Own.grewOther HX4.out HPP4.out.outer hgr7 (by decide))
      have H67 := Lib.hid (Own.grewOther H6.out HPP4.out.outer hgr7 (by decide))
      have HBS7 := Lib.hid (Nat.le_trans hbs4 hch7.size)
      have hbs7 := HBS7.out
      clear hgr7 hch7 hinP hinQ HPP4 HQQ4 HO7 HGR7 H54 HX4 HKY4 HC4 HG4 H6 hbs4
      go_upto_region 23 with (at_builtin; refine wpList_push elS rfl (.tmp 107) (.tmp 109) rfl rfl HQ7.out.outer (.slice a6 r c6) rfl rfl (by unfold maxLen; omega) (by omega) hbs7 ?_; intro g8 c8 w8 hown8 hgr8; have HO8 := Lib.hid hown8; have HGR8 := Lib.hid hgr8; clear hown8 hgr8)
      have hgr8 := HGR8.out
      have hch8 := hgr8.ch
      have hinP : ∀ g, In (some ⟨g7, 0, none⟩) c7 g → B ≤ g ∧ g < w7.heap.size := fun g h => Own.inn HP7.out.outer h
      have hinQ : ∀ g, In aQ cQ g → B ≤ g ∧ g < w7.heap.size := fun g h => Own.inn HQ7.out.outer h
      have HQ8 := Lib.hid (HQ7.out.push (Nat.le_refl _) H67.out HO8.out hgr8)
      have HP8 : Hid (Pcs w8 B (some ⟨g7, 0, none⟩) (k + 1) c7 (ps ++ [(X.drop f).take r]) (LP ++ [⟨a5, r, c5⟩])) := Lib.hid ⟨Own.ch HP7.out.outer hch8 (fun h0 g e h => HD7.out g ⟨h0, e⟩ h), HP7.out.len, fun i h1 h2 => Own.grewOther (HP7.out.inner i h1 h2) HQ7.out.outer hgr8 (by decide)⟩
      have HD8 : Hid (∀ g, In (some ⟨g7, 0, none⟩) c7 g → ¬ In (some ⟨g8, 0, none⟩) c8 g) := Lib.hid (fun g hp h => by
        rcases hgr8 with ⟨g1, e1, e2, h3, h4, _⟩ | ⟨g1, e1, h2, _⟩
        · exact HD7.out g hp ⟨h3, e2.trans (by
            have := h.2
            injection this with this; injection this with this
            rw [this])⟩
        · have h5 := (hinP g hp).2
          have h6 := h.2
          injection h6 with h6; injection h6 with h6
          injection e1 with e1; injection e1 with e1
          omega)
      have HG8 := Lib.hid (Ch.fresh HG7.out hch8 (fun g hg h => by have h1 := (hinQ g h).1; have h2 := HGC1.out; have h3 := HGL.out; omega))
      have HC8 := Lib.hid (show CipC w8 gC key (x + ((f + r : Nat) : Int)) from Row.ch (show Row w7 gC _ _ from HC7.out) hch8 (row_in (show Row w7 gC _ _ from HC7.out) HQ7.out.outer (by decide)))
      have HKY8 := Lib.hid (HKY7.out.ch hch8 (row_in HKY7.out HQ7.out.outer (by decide)))
      have HX8 := Lib.hid (Own.grewOther HX7.out HQ7.out.outer hgr8 (by decide))
      have HBS8 := Lib.hid (Nat.le_trans hbs7 hch8.size)
      have hflat : ∀ ps : List (List UInt8), ps.flatten = X.take f → (ps ++ [(X.drop f).take r]).flatten = X.take (f + r) := fun ps h => by rw [List.flatten_append, h, List.take_add]; simp
      have HFL := Lib.hid hflat
      clear hgr8 hch8 hinP hinQ HP7 HQ7 HO8 HGR8 H67 HX7 HKY7 HC7 HG7 hbs7 hflat
      have hw3 := HW3.out
      have hw4 := HW4.out
      go_wp2_with fail
      clear hw3 hw4
      go_roundw
      case rel => exact ⟨k + 1, f + r, _, _, _, _, _, _, _, _, by omega, hfr, by go_num, rfl, rfl, rfl, HP8.out, HQ8.out, HFL.out _ HPF.out, HFL.out _ HQF.out, by simp [HPL.out], by simp [HQL.out], HC8.out, HD8.out, HKY8.out, HX8.out, HG8.out, HBS8.out, fun h => HFE.out h⟩
      case measure => simp [intOf] <;> omega

    · by_cases hke : k = n1
      · subst hke
        have hk1 : decide ((k : Int) ≤ (k : Int)) = true := decide_eq_true (Int.le_refl _)
        have hk3 : decide ((k : Int) < (k : Int)) = false := decide_eq_false (by omega)
        obtain ⟨r, hr⟩ : ∃ r, r = n - f := ⟨_, rfl⟩
        have hfr : f + r ≤ n := by omega
        have HFE : Hid (f + r = n) := Lib.hid (by omega)
        have hw5 := HW5.out
        have hw6 := HW6.out
        rw [← hr] at hw5 hw6
        clear hr
        go_upto_region 17 with fail
        clear hw5 hw6
        have hfrb : f + r ≤ 3000 := by omega
        have HYB := Lib.hid (show -9223372036854775808 ≤ x + (f : Int) ∧ x + (f : Int) ≤ 9223372036854775807 by have := HXB.out; omega)
        obtain ⟨y, hy⟩ : ∃ y, y = x + (f : Int) := ⟨_, rfl⟩
        have HYE := Lib.hid hy
        have HW1 := Lib.hid (show wrap64 (x + (f : Int)) = y by rw [IntWalk.wrap64_in _ HYB.out, hy])
        have HW2 := Lib.hid (show IntKind.i64.wrap (x + (f : Int)) = y by rw [IntWalk.i64_in _ HYB.out, hy])
        have HW3 := Lib.hid (show wrap64 ((f : Int) + (r : Int)) = ((f + r : Nat) : Int) by rw [IntWalk.wrap64_in _ (by omega)]; omega)
        have HW4 := Lib.hid (i64_small ((f : Int) + (r : Int)) (by omega) (by omega))
        rw [← hy] at HC
        clear hy
        go_upto_region 17 with fail
        refine wp_regionX (fun u => wr.grownBy u none) 15 (by kernel_rfl) (grownBy_drewN wr 1 none) ?_
        refine wpX_take 0 (v := .agg (cellsB key)) (oi := { dst := some 73, op := Op.load 27 (Operand.tmp 4), type := 27, pos := "outright.go:64", after := #[], guard := none }) (oL := { dst := some 18, op := Op.assign (Operand.tmp 85), type := 36, pos := "outright.go:64", after := #[{ on := 13, ground := Ground.data }, { on := 14, ground := Ground.chain }, { on := 0, ground := Ground.phase }, { on := 1, ground := Ground.phase }, { on := 2, ground := Ground.phase }, { on := 3, ground := Ground.phase }, { on := 4, ground := Ground.phase }, { on := 5, ground := Ground.phase }, { on := 6, ground := Ground.phase }, { on := 7, ground := Ground.phase }, { on := 8, ground := Ground.phase }, { on := 9, ground := Ground.phase }, { on := 10, ground := Ground.phase }, { on := 11, ground := Ground.phase }, { on := 12, ground := Ground.phase }, { on := 13, ground := Ground.phase }, { on := 14, ground := Ground.phase }], guard := none }) (clo_grown _) rfl rfl rfl (by kernel_rfl) (by kernel_rfl) (by kernel_rfl) (by kernel_rfl) (by kernel_rfl) (fun _ _ _ h => h) (YG.val (by rfl) (fun u hu => run_load_op u _ 27 (.tmp 4) rfl w.heap.size rfl 27 (cellsB key) (HKY.out.grown hu) Try.underlying27 rfl (by rw [cellsB_size, hkl]; kernel_rfl))) ?_
        simp only [Act.put, List.setIfInBounds_toArray, List.set_cons_zero, List.set_cons_succ]
        refine wpX_take 1 (v := .int .i64 x) (oi := { dst := some 74, op := Op.move (Operand.tmp 1), type := 3, pos := "outright.go:64", after := #[], guard := none }) (oL := { dst := some 18, op := Op.assign (Operand.tmp 85), type := 36, pos := "outright.go:64", after := #[{ on := 13, ground := Ground.data }, { on := 14, ground := Ground.chain }, { on := 0, ground := Ground.phase }, { on := 1, ground := Ground.phase }, { on := 2, ground := Ground.phase }, { on := 3, ground := Ground.phase }, { on := 4, ground := Ground.phase }, { on := 5, ground := Ground.phase }, { on := 6, ground := Ground.phase }, { on := 7, ground := Ground.phase }, { on := 8, ground := Ground.phase }, { on := 9, ground := Ground.phase }, { on := 10, ground := Ground.phase }, { on := 11, ground := Ground.phase }, { on := 12, ground := Ground.phase }, { on := 13, ground := Ground.phase }, { on := 14, ground := Ground.phase }], guard := none }) (clo_grown _) rfl rfl rfl (by kernel_rfl) (by kernel_rfl) (by kernel_rfl) (by kernel_rfl) (by kernel_rfl) (fun _ _ _ h => h) (YG.val (by rfl) (fun _ _ => rfl)) ?_
        simp only [Act.put, List.setIfInBounds_toArray, List.set_cons_zero, List.set_cons_succ]
        refine wpX_take 2 (v := .int .i64 (f : Int)) (oi := { dst := some 75, op := Op.move (Operand.tmp 14), type := 3, pos := "outright.go:64", after := #[], guard := none }) (oL := { dst := some 18, op := Op.assign (Operand.tmp 85), type := 36, pos := "outright.go:64", after := #[{ on := 13, ground := Ground.data }, { on := 14, ground := Ground.chain }, { on := 0, ground := Ground.phase }, { on := 1, ground := Ground.phase }, { on := 2, ground := Ground.phase }, { on := 3, ground := Ground.phase }, { on := 4, ground := Ground.phase }, { on := 5, ground := Ground.phase }, { on := 6, ground := Ground.phase }, { on := 7, ground := Ground.phase }, { on := 8, ground := Ground.phase }, { on := 9, ground := Ground.phase }, { on := 10, ground := Ground.phase }, { on := 11, ground := Ground.phase }, { on := 12, ground := Ground.phase }, { on := 13, ground := Ground.phase }, { on := 14, ground := Ground.phase }], guard := none }) (clo_grown _) rfl rfl rfl (by kernel_rfl) (by kernel_rfl) (by kernel_rfl) (by kernel_rfl) (by kernel_rfl) (fun _ _ _ h => h) (YG.val (by rfl) (fun _ _ => rfl)) ?_
        simp only [Act.put, List.setIfInBounds_toArray, List.set_cons_zero, List.set_cons_succ]
        refine wpX_take 3 (v := .int .i64 y) (oi := { dst := some 76, op := Op.binOp BinOp.add 3 (Operand.tmp 74) (Operand.tmp 75) 3, type := 3, pos := "outright.go:64", after := #[{ on := 1, ground := Ground.data }, { on := 2, ground := Ground.data }], guard := none }) (oL := { dst := some 18, op := Op.assign (Operand.tmp 85), type := 36, pos := "outright.go:64", after := #[{ on := 13, ground := Ground.data }, { on := 14, ground := Ground.chain }, { on := 0, ground := Ground.phase }, { on := 1, ground := Ground.phase }, { on := 2, ground := Ground.phase }, { on := 3, ground := Ground.phase }, { on := 4, ground := Ground.phase }, { on := 5, ground := Ground.phase }, { on := 6, ground := Ground.phase }, { on := 7, ground := Ground.phase }, { on := 8, ground := Ground.phase }, { on := 9, ground := Ground.phase }, { on := 10, ground := Ground.phase }, { on := 11, ground := Ground.phase }, { on := 12, ground := Ground.phase }, { on := 13, ground := Ground.phase }, { on := 14, ground := Ground.phase }], guard := none }) (clo_grown _) rfl rfl rfl (by kernel_rfl) (by kernel_rfl) (by kernel_rfl) (by kernel_rfl) (by kernel_rfl) (fun _ _ _ h => h) (YG.val (by rfl) (fun _ _ => by have h1 := HW1.out; have h2 := HW2.out; go_simp)) ?_
        simp only [Act.put, List.setIfInBounds_toArray, List.set_cons_zero, List.set_cons_succ]
        refine wpX_take 4 (v := .slice a n c) (oi := { dst := some 77, op := Op.move (Operand.tmp 2), type := 34, pos := "outright.go:64", after := #[], guard := none }) (oL := { dst := some 18, op := Op.assign (Operand.tmp 85), type := 36, pos := "outright.go:64", after := #[{ on := 13, ground := Ground.data }, { on := 14, ground := Ground.chain }, { on := 0, ground := Ground.phase }, { on := 1, ground := Ground.phase }, { on := 2, ground := Ground.phase }, { on := 3, ground := Ground.phase }, { on := 4, ground := Ground.phase }, { on := 5, ground := Ground.phase }, { on := 6, ground := Ground.phase }, { on := 7, ground := Ground.phase }, { on := 8, ground := Ground.phase }, { on := 9, ground := Ground.phase }, { on := 10, ground := Ground.phase }, { on := 11, ground := Ground.phase }, { on := 12, ground := Ground.phase }, { on := 13, ground := Ground.phase }, { on := 14, ground := Ground.phase }], guard := none }) (clo_grown _) rfl rfl rfl (by kernel_rfl) (by kernel_rfl) (by kernel_rfl) (by kernel_rfl) (by kernel_rfl) (fun _ _ _ h => h) (YG.val (by rfl) (fun _ _ => rfl)) ?_
        simp only [Act.put, List.setIfInBounds_toArray, List.set_cons_zero, List.set_cons_succ]
        refine wpX_take 5 (v := .int .i64 (f : Int)) (oi := { dst := some 78, op := Op.move (Operand.tmp 14), type := 3, pos := "outright.go:64", after := #[], guard := none }) (oL := { dst := some 18, op := Op.assign (Operand.tmp 85), type := 36, pos := "outright.go:64", after := #[{ on := 13, ground := Ground.data }, { on := 14, ground := Ground.chain }, { on := 0, ground := Ground.phase }, { on := 1, ground := Ground.phase }, { on := 2, ground := Ground.phase }, { on := 3, ground := Ground.phase }, { on := 4, ground := Ground.phase }, { on := 5, ground := Ground.phase }, { on := 6, ground := Ground.phase }, { on := 7, ground := Ground.phase }, { on := 8, ground := Ground.phase }, { on := 9, ground := Ground.phase }, { on := 10, ground := Ground.phase }, { on := 11, ground := Ground.phase }, { on := 12, ground := Ground.phase }, { on := 13, ground := Ground.phase }, { on := 14, ground := Ground.phase }], guard := none }) (clo_grown _) rfl rfl rfl (by kernel_rfl) (by kernel_rfl) (by kernel_rfl) (by kernel_rfl) (by kernel_rfl) (fun _ _ _ h => h) (YG.val (by rfl) (fun _ _ => rfl)) ?_
        simp only [Act.put, List.setIfInBounds_toArray, List.set_cons_zero, List.set_cons_succ]
        refine wpX_take 6 (v := .int .i64 (f : Int)) (oi := { dst := some 79, op := Op.move (Operand.tmp 14), type := 3, pos := "outright.go:64", after := #[], guard := none }) (oL := { dst := some 18, op := Op.assign (Operand.tmp 85), type := 36, pos := "outright.go:64", after := #[{ on := 13, ground := Ground.data }, { on := 14, ground := Ground.chain }, { on := 0, ground := Ground.phase }, { on := 1, ground := Ground.phase }, { on := 2, ground := Ground.phase }, { on := 3, ground := Ground.phase }, { on := 4, ground := Ground.phase }, { on := 5, ground := Ground.phase }, { on := 6, ground := Ground.phase }, { on := 7, ground := Ground.phase }, { on := 8, ground := Ground.phase }, { on := 9, ground := Ground.phase }, { on := 10, ground := Ground.phase }, { on := 11, ground := Ground.phase }, { on := 12, ground := Ground.phase }, { on := 13, ground := Ground.phase }, { on := 14, ground := Ground.phase }], guard := none }) (clo_grown _) rfl rfl rfl (by kernel_rfl) (by kernel_rfl) (by kernel_rfl) (by kernel_rfl) (by kernel_rfl) (fun _ _ _ h => h) (YG.val (by rfl) (fun _ _ => rfl)) ?_
        simp only [Act.put, List.setIfInBounds_toArray, List.set_cons_zero, List.set_cons_succ]
        refine wpX_take 7 (v := .int .i64 (r : Int)) (oi := { dst := some 80, op := Op.move (Operand.tmp 16), type := 3, pos := "outright.go:64", after := #[], guard := none }) (oL := { dst := some 18, op := Op.assign (Operand.tmp 85), type := 36, pos := "outright.go:64", after := #[{ on := 13, ground := Ground.data }, { on := 14, ground := Ground.chain }, { on := 0, ground := Ground.phase }, { on := 1, ground := Ground.phase }, { on := 2, ground := Ground.phase }, { on := 3, ground := Ground.phase }, { on := 4, ground := Ground.phase }, { on := 5, ground := Ground.phase }, { on := 6, ground := Ground.phase }, { on := 7, ground := Ground.phase }, { on := 8, ground := Ground.phase }, { on := 9, ground := Ground.phase }, { on := 10, ground := Ground.phase }, { on := 11, ground := Ground.phase }, { on := 12, ground := Ground.phase }, { on := 13, ground := Ground.phase }, { on := 14, ground := Ground.phase }], guard := none }) (clo_grown _) rfl rfl rfl (by kernel_rfl) (by kernel_rfl) (by kernel_rfl) (by kernel_rfl) (by kernel_rfl) (fun _ _ _ h => h) (YG.val (by rfl) (fun _ _ => rfl)) ?_
        simp only [Act.put, List.setIfInBounds_toArray, List.set_cons_zero, List.set_cons_succ]
        refine wpX_take 8 (v := .int .i64 ((f + r : Nat) : Int)) (oi := { dst := some 81, op := Op.binOp BinOp.add 3 (Operand.tmp 79) (Operand.tmp 80) 3, type := 3, pos := "outright.go:64", after := #[{ on := 6, ground := Ground.data }, { on := 7, ground := Ground.data }], guard := none }) (oL := { dst := some 18, op := Op.assign (Operand.tmp 85), type := 36, pos := "outright.go:64", after := #[{ on := 13, ground := Ground.data }, { on := 14, ground := Ground.chain }, { on := 0, ground := Ground.phase }, { on := 1, ground := Ground.phase }, { on := 2, ground := Ground.phase }, { on := 3, ground := Ground.phase }, { on := 4, ground := Ground.phase }, { on := 5, ground := Ground.phase }, { on := 6, ground := Ground.phase }, { on := 7, ground := Ground.phase }, { on := 8, ground := Ground.phase }, { on := 9, ground := Ground.phase }, { on := 10, ground := Ground.phase }, { on := 11, ground := Ground.phase }, { on := 12, ground := Ground.phase }, { on := 13, ground := Ground.phase }, { on := 14, ground := Ground.phase }], guard := none }) (clo_grown _) rfl rfl rfl (by kernel_rfl) (by kernel_rfl) (by kernel_rfl) (by kernel_rfl) (by kernel_rfl) (fun _ _ _ h => h) (YG.val (by rfl) (fun _ _ => by have h1 := HW3.out; have h2 := HW4.out; go_simp; try exact h2)) ?_
        simp only [Act.put, List.setIfInBounds_toArray, List.set_cons_zero, List.set_cons_succ]
        refine wpX_take 9 (v := .slice (midA a f c) r (c - f)) (oi := { dst := some 82, op := Op.slice 34 (Operand.tmp 77) (some (Operand.tmp 78)) (some (Operand.tmp 81)) none, type := 34, pos := "outright.go:64", after := #[{ on := 4, ground := Ground.data }, { on := 5, ground := Ground.data }, { on := 8, ground := Ground.data }], guard := none }) (oL := { dst := some 18, op := Op.assign (Operand.tmp 85), type := 36, pos := "outright.go:64", after := #[{ on := 13, ground := Ground.data }, { on := 14, ground := Ground.chain }, { on := 0, ground := Ground.phase }, { on := 1, ground := Ground.phase }, { on := 2, ground := Ground.phase }, { on := 3, ground := Ground.phase }, { on := 4, ground := Ground.phase }, { on := 5, ground := Ground.phase }, { on := 6, ground := Ground.phase }, { on := 7, ground := Ground.phase }, { on := 8, ground := Ground.phase }, { on := 9, ground := Ground.phase }, { on := 10, ground := Ground.phase }, { on := 11, ground := Ground.phase }, { on := 12, ground := Ground.phase }, { on := 13, ground := Ground.phase }, { on := 14, ground := Ground.phase }], guard := none }) (clo_grown _) rfl rfl rfl (by kernel_rfl) (by kernel_rfl) (by kernel_rfl) (by kernel_rfl) (by kernel_rfl) (fun _ _ _ h => h) (YG.val (by rfl) (fun u _ => run_mid_op2 u _ (.tmp 77) (.tmp 78) (.tmp 81) rfl a n c f r rfl rfl rfl (by omega))) ?_
        simp only [Act.put, List.setIfInBounds_toArray, List.set_cons_zero, List.set_cons_succ]
        refine wpX_step 10 (o := { dst := some 83, op := Op.call { callee := Callee.value (Operand.func 19), args := #[Operand.tmp 73, Operand.tmp 76, Operand.tmp 82], argTypes := #[27, 3, 34] }, type := 37, pos := "outright.go:64", after := #[{ on := 0, ground := Ground.data }, { on := 3, ground := Ground.data }, { on := 9, ground := Ground.data }], guard := none }) rfl rfl (by kernel_rfl) (by rfl) (fun u2 hS2 K hK => ?_)
        have HK := Lib.hid hK
        have HS2 := Lib.hid hS2
        clear hK hS2
        refine wp_call_op (f := 19) (args := #[.agg (cellsB key), .int .i64 y, .slice (midA a f c) r (c - f)]) (w1 := u2) (by go_simp) ((HAP.out u2 f r y _ _ hfr HYE.out (mid_lies (HA.out.grown (grownBy_trans (grownBy_trans HG1.out HG.out) HS2.out)) f r c (by rw [HL.out]; exact hfr) (by rw [HL.out]; exact hnc))).mono ?_)
        rintro e u3 ⟨a5, c5, rfl, ho, hg⟩
        refine ⟨_, rfl, HK.out (fun u => u3.grownBy u none) _ _ (World.grownBy.refl _ _) (fun u h => grownBy_trans (grownBy_trans HS2.out hg) h) (clo_grown u3) ?_⟩
        simp only [Act.put, List.setIfInBounds_toArray, List.set_cons_zero, List.set_cons_succ]
        refine wpX_take 11 (v := .tuple #[.slice a5 r c5, .int .i64 0]) (oi := { dst := some 72, op := Op.move (Operand.tmp 83), type := 37, pos := "outright.go:64", after := #[{ on := 10, ground := Ground.data }], guard := none }) (oL := { dst := some 18, op := Op.assign (Operand.tmp 85), type := 36, pos := "outright.go:64", after := #[{ on := 13, ground := Ground.data }, { on := 14, ground := Ground.chain }, { on := 0, ground := Ground.phase }, { on := 1, ground := Ground.phase }, { on := 2, ground := Ground.phase }, { on := 3, ground := Ground.phase }, { on := 4, ground := Ground.phase }, { on := 5, ground := Ground.phase }, { on := 6, ground := Ground.phase }, { on := 7, ground := Ground.phase }, { on := 8, ground := Ground.phase }, { on := 9, ground := Ground.phase }, { on := 10, ground := Ground.phase }, { on := 11, ground := Ground.phase }, { on := 12, ground := Ground.phase }, { on := 13, ground := Ground.phase }, { on := 14, ground := Ground.phase }], guard := none }) (clo_grown _) rfl rfl rfl (by kernel_rfl) (by kernel_rfl) (by kernel_rfl) (by kernel_rfl) (by kernel_rfl) (fun _ _ _ h => h) (YG.val (by rfl) (fun _ _ => rfl)) ?_
        simp only [Act.put, List.setIfInBounds_toArray, List.set_cons_zero, List.set_cons_succ]
        refine wpX_take 12 (v := .slice a5 r c5) (oi := { dst := some 84, op := Op.extract (Operand.tmp 72) 0, type := 34, pos := "outright.go:64", after := #[{ on := 11, ground := Ground.data }], guard := none }) (oL := { dst := some 18, op := Op.assign (Operand.tmp 85), type := 36, pos := "outright.go:64", after := #[{ on := 13, ground := Ground.data }, { on := 14, ground := Ground.chain }, { on := 0, ground := Ground.phase }, { on := 1, ground := Ground.phase }, { on := 2, ground := Ground.phase }, { on := 3, ground := Ground.phase }, { on := 4, ground := Ground.phase }, { on := 5, ground := Ground.phase }, { on := 6, ground := Ground.phase }, { on := 7, ground := Ground.phase }, { on := 8, ground := Ground.phase }, { on := 9, ground := Ground.phase }, { on := 10, ground := Ground.phase }, { on := 11, ground := Ground.phase }, { on := 12, ground := Ground.phase }, { on := 13, ground := Ground.phase }, { on := 14, ground := Ground.phase }], guard := none }) (clo_grown _) rfl rfl rfl (by kernel_rfl) (by kernel_rfl) (by kernel_rfl) (by kernel_rfl) (by kernel_rfl) (fun _ _ _ h => h) (YG.val (by rfl) (fun _ _ => by go_simp)) ?_
        simp only [Act.put, List.setIfInBounds_toArray, List.set_cons_zero, List.set_cons_succ]
        refine wpX_take 13 (v := .int .i64 0) (oi := { dst := some 85, op := Op.extract (Operand.tmp 72) 1, type := 36, pos := "outright.go:64", after := #[{ on := 11, ground := Ground.data }, { on := 14, ground := Ground.gcOnly Departure.lateStores }], guard := none }) (oL := { dst := some 18, op := Op.assign (Operand.tmp 85), type := 36, pos := "outright.go:64", after := #[{ on := 13, ground := Ground.data }, { on := 14, ground := Ground.chain }, { on := 0, ground := Ground.phase }, { on := 1, ground := Ground.phase }, { on := 2, ground := Ground.phase }, { on := 3, ground := Ground.phase }, { on := 4, ground := Ground.phase }, { on := 5, ground := Ground.phase }, { on := 6, ground := Ground.phase }, { on := 7, ground := Ground.phase }, { on := 8, ground := Ground.phase }, { on := 9, ground := Ground.phase }, { on := 10, ground := Ground.phase }, { on := 11, ground := Ground.phase }, { on := 12, ground := Ground.phase }, { on := 13, ground := Ground.phase }, { on := 14, ground := Ground.phase }], guard := none }) (clo_grown _) rfl rfl rfl (by kernel_rfl) (by kernel_rfl) (by kernel_rfl) (by kernel_rfl) (by kernel_rfl) (fun _ _ _ h => h) (YG.val (by rfl) (fun _ _ => by go_simp)) ?_
        simp only [Act.put, List.setIfInBounds_toArray, List.set_cons_zero, List.set_cons_succ]
        refine wpX_take 14 (v := .slice a5 r c5) (oi := { dst := some 17, op := Op.assign (Operand.tmp 84), type := 34, pos := "outright.go:64", after := #[{ on := 12, ground := Ground.data }, { on := 10, ground := Ground.chain }, { on := 0, ground := Ground.phase }, { on := 1, ground := Ground.phase }, { on := 2, ground := Ground.phase }, { on := 3, ground := Ground.phase }, { on := 4, ground := Ground.phase }, { on := 5, ground := Ground.phase }, { on := 6, ground := Ground.phase }, { on := 7, ground := Ground.phase }, { on := 8, ground := Ground.phase }, { on := 9, ground := Ground.phase }, { on := 10, ground := Ground.phase }, { on := 11, ground := Ground.phase }, { on := 12, ground := Ground.phase }, { on := 13, ground := Ground.textOnly Departure.lateStores }], guard := none }) (oL := { dst := some 18, op := Op.assign (Operand.tmp 85), type := 36, pos := "outright.go:64", after := #[{ on := 13, ground := Ground.data }, { on := 14, ground := Ground.chain }, { on := 0, ground := Ground.phase }, { on := 1, ground := Ground.phase }, { on := 2, ground := Ground.phase }, { on := 3, ground := Ground.phase }, { on := 4, ground := Ground.phase }, { on := 5, ground := Ground.phase }, { on := 6, ground := Ground.phase }, { on := 7, ground := Ground.phase }, { on := 8, ground := Ground.phase }, { on := 9, ground := Ground.phase }, { on := 10, ground := Ground.phase }, { on := 11, ground := Ground.phase }, { on := 12, ground := Ground.phase }, { on := 13, ground := Ground.phase }, { on := 14, ground := Ground.phase }], guard := none }) (clo_grown _) rfl rfl rfl (by kernel_rfl) (by kernel_rfl) (by kernel_rfl) (by kernel_rfl) (by kernel_rfl) (fun _ _ _ h => h) (YG.val (by rfl) (fun _ _ => rfl)) ?_
        simp only [Act.put, List.setIfInBounds_toArray, List.set_cons_zero, List.set_cons_succ]
        refine wpX_last (oL := { dst := some 18, op := Op.assign (Operand.tmp 85), type := 36, pos := "outright.go:64", after := #[{ on := 13, ground := Ground.data }, { on := 14, ground := Ground.chain }, { on := 0, ground := Ground.phase }, { on := 1, ground := Ground.phase }, { on := 2, ground := Ground.phase }, { on := 3, ground := Ground.phase }, { on := 4, ground := Ground.phase }, { on := 5, ground := Ground.phase }, { on := 6, ground := Ground.phase }, { on := 7, ground := Ground.phase }, { on := 8, ground := Ground.phase }, { on := 9, ground := Ground.phase }, { on := 10, ground := Ground.phase }, { on := 11, ground := Ground.phase }, { on := 12, ground := Ground.phase }, { on := 13, ground := Ground.phase }, { on := 14, ground := Ground.phase }], guard := none }) rfl (by kernel_rfl) (by kernel_rfl) (by rfl) (fun u4 hS4 K4 hK4 => ?_)
        refine wp_val_op (v := .int .i64 0) (w1 := u4) (by go_simp) (hK4 _ _ ?_)
        simp only [Act.put, List.setIfInBounds_toArray, List.set_cons_zero, List.set_cons_succ]
        obtain ⟨w3, hw3⟩ : ∃ w3, w3 = u4 := ⟨_, rfl⟩
        have h13 : wr.grownBy u4 none := grownBy_trans (grownBy_trans HS2.out hg) hS4
        have H5 := Lib.hid ((BOwn.grown ho hS4).mono (Nat.le_trans HBS.out HS2.out.size))
        rw [← hw3] at h13 H5 ⊢
        have HG3 := Lib.hid (grownBy_trans HG.out h13)
        have HKY3 := Lib.hid (HKY.out.grown h13)
        have HC3 := Lib.hid (HC.out.grown h13)
        have HX3 := Lib.hid (HX.out.grown h13)
        have HPP3 := Lib.hid (HPP.out.ch (Ch.ofNone h13 (fun _ => False)) (fun _ _ h => h))
        have HQQ3 := Lib.hid (HQQ.out.ch (Ch.ofNone h13 (fun _ => False)) (fun _ _ h => h))
        have HBS3 := Lib.hid (Nat.le_trans HBS.out h13.size)
        have HF3 := Lib.hid (show ∀ g, In aP cP g ∨ In aQ cQ g → g < w3.heap.size from fun g h => h.elim (fun h => (Own.inn HPP3.out.outer h).2) (fun h => (Own.inn HQQ3.out.outer h).2))
        clear hw3 h13 ho hg hS4 HS2 HK hK4
        have hw3 := HW3.out
        go_upto_region 19 with (first
          | (refine wpList_valp rfl (run_mid_op2 _ _ (.tmp 88) (.tmp 89) (.tmp 92) rfl a n c f r rfl rfl rfl (by omega)) ?_)
          | (go_at_call 31; refine (HNX.out _ f r y gC _ _ hfr HYE.out HC3.out (mid_lies (HA.out.grown (grownBy_trans HG1.out HG3.out)) f r c (by rw [HL.out]; exact hfr) (by rw [HL.out]; exact hnc))).mono ?_; rintro e w4 ⟨a6, c6, rfl, ho, hcc, hg⟩; have H6 := Lib.hid (ho.mono HBS3.out); have HC4 := Lib.hid hcc; have HG34 := Lib.hid hg; clear ho hcc hg))
        clear hw3
        have hg4 := HG34.out
        have hgl := HGL.out
        have hch4 : Ch (fun g => g = gC) w3 w4 := Ch.ofSome hg4 rfl
        have HG4 := Lib.hid (grownBy_old HG3.out hg4 HGC1.out)
        have HKY4 := Lib.hid (HKY3.out.grownNe hg4 (fun e => by have h1 := HKN.out; have h2 := HGC1.out; omega))
        have HX4 := Lib.hid (own_cip HC3.out HX3.out hg4)
        have HPP4 := Lib.hid (HPP3.out.ch hch4 (fun g h1 h2 => by omega))
        have HQQ4 := Lib.hid (HQQ3.out.ch hch4 (fun g h1 h2 => by omega))
        have H54 := Lib.hid (own_cip HC3.out H5.out hg4)
        have HBS4 := Lib.hid (Nat.le_trans HBS3.out hg4.size)
        have hbs4 := HBS4.out
        clear hg4 hch4
        go_upto_region 22 with (at_builtin; refine wpList_push elS rfl (.tmp 103) (.tmp 105) rfl rfl HPP4.out.outer (.slice a5 r c5) rfl rfl (by unfold maxLen; omega) (by omega) hbs4 ?_; intro g7 c7 w7 hown7 hgr7; have HO7 := Lib.hid hown7; have HGR7 := Lib.hid hgr7; clear hown7 hgr7)
        have hgr7 := HGR7.out
        have hch7 := hgr7.ch
        have hinP : ∀ g, In aP cP g → B ≤ g ∧ g < w4.heap.size := fun g h => Own.inn HPP4.out.outer h
        have hinQ : ∀ g, In aQ cQ g → B ≤ g ∧ g < w4.heap.size := fun g h => Own.inn HQQ4.out.outer h
        have HP7 := Lib.hid (HPP4.out.push (Nat.le_refl _) H54.out HO7.out hgr7)
        have HQ7 : Hid (Pcs w7 B aQ k cQ qs LQ) := Lib.hid ⟨Own.ch HQQ4.out.outer hch7 (fun h0 g e h => HD.out g h ⟨h0, e⟩), HQQ4.out.len, fun i h1 h2 => Own.grewOther (HQQ4.out.inner i h1 h2) HPP4.out.outer hgr7 (by decide)⟩
        have HD7 : Hid (∀ g, In (some ⟨g7, 0, none⟩) c7 g → ¬ In aQ cQ g) := Lib.hid (fun g h hq => by
          rcases hgr7 with ⟨g1, e1, e2, h3, h4, _⟩ | ⟨g1, e1, h2, _⟩
          · exact HD.out g ⟨h3, e2.trans (by
              have := h.2
              injection this with this; injection this with this
              rw [this])⟩ hq
          · have h5 := (hinQ g hq).2
            have h6 := h.2
            injection h6 with h6; injection h6 with h6
            injection e1 with e1; injection e1 with e1
            omega)
        have HG7 := Lib.hid (Ch.fresh HG4.out hch7 (fun g hg h => by have h1 := (hinP g h).1; have h2 := HGC1.out; have h3 := HGL.out; omega))
        have HC7 := Lib.hid (show CipC w7 gC key (x + ((f + r : Nat) : Int)) from Row.ch (show Row w4 gC _ _ from HC4.out) hch7 (row_in (show Row w4 gC _ _ from HC4.out) HPP4.out.outer (by decide)))
        have HKY7 := Lib.hid (HKY4.out.ch hch7 (row_in HKY4.out HPP4.out.outer (by decide)))
        have HX7 := Lib.hid (Own.grewOther HX4.out HPP4.out.outer hgr7 (by decide))
        have H67 := Lib.hid (Own.grewOther H6.out HPP4.out.outer hgr7 (by decide))
        have HBS7 := Lib.hid (Nat.le_trans hbs4 hch7.size)
        have hbs7 := HBS7.out
        clear hgr7 hch7 hinP hinQ HPP4 HQQ4 HO7 HGR7 H54 HX4 HKY4 HC4 HG4 H6 hbs4
        go_upto_region 23 with (at_builtin; refine wpList_push elS rfl (.tmp 107) (.tmp 109) rfl rfl HQ7.out.outer (.slice a6 r c6) rfl rfl (by unfold maxLen; omega) (by omega) hbs7 ?_; intro g8 c8 w8 hown8 hgr8; have HO8 := Lib.hid hown8; have HGR8 := Lib.hid hgr8; clear hown8 hgr8)
        have hgr8 := HGR8.out
        have hch8 := hgr8.ch
        have hinP : ∀ g, In (some ⟨g7, 0, none⟩) c7 g → B ≤ g ∧ g < w7.heap.size := fun g h => Own.inn HP7.out.outer h
        have hinQ : ∀ g, In aQ cQ g → B ≤ g ∧ g < w7.heap.size := fun g h => Own.inn HQ7.out.outer h
        have HQ8 := Lib.hid (HQ7.out.push (Nat.le_refl _) H67.out HO8.out hgr8)
        have HP8 : Hid (Pcs w8 B (some ⟨g7, 0, none⟩) (k + 1) c7 (ps ++ [(X.drop f).take r]) (LP ++ [⟨a5, r, c5⟩])) := Lib.hid ⟨Own.ch HP7.out.outer hch8 (fun h0 g e h => HD7.out g ⟨h0, e⟩ h), HP7.out.len, fun i h1 h2 => Own.grewOther (HP7.out.inner i h1 h2) HQ7.out.outer hgr8 (by decide)⟩
        have HD8 : Hid (∀ g, In (some ⟨g7, 0, none⟩) c7 g → ¬ In (some ⟨g8, 0, none⟩) c8 g) := Lib.hid (fun g hp h => by
          rcases hgr8 with ⟨g1, e1, e2, h3, h4, _⟩ | ⟨g1, e1, h2, _⟩
          · exact HD7.out g hp ⟨h3, e2.trans (by
              have := h.2
              injection this with this; injection this with this
              rw [this])⟩
          · have h5 := (hinP g hp).2
            have h6 := h.2
            injection h6 with h6; injection h6 with h6
            injection e1 with e1; injection e1 with e1
            omega)
        have HG8 := Lib.hid (Ch.fresh HG7.out hch8 (fun g hg h => by have h1 := (hinQ g h).1; have h2 := HGC1.out; have h3 := HGL.out; omega))
        have HC8 := Lib.hid (show CipC w8 gC key (x + ((f + r : Nat) : Int)) from Row.ch (show Row w7 gC _ _ from HC7.out) hch8 (row_in (show Row w7 gC _ _ from HC7.out) HQ7.out.outer (by decide)))
        have HKY8 := Lib.hid (HKY7.out.ch hch8 (row_in HKY7.out HQ7.out.outer (by decide)))
        have HX8 := Lib.hid (Own.grewOther HX7.out HQ7.out.outer hgr8 (by decide))
        have HBS8 := Lib.hid (Nat.le_trans hbs7 hch8.size)
        have hflat : ∀ ps : List (List UInt8), ps.flatten = X.take f → (ps ++ [(X.drop f).take r]).flatten = X.take (f + r) := fun ps h => by rw [List.flatten_append, h, List.take_add]; simp
        have HFL := Lib.hid hflat
        clear hgr8 hch8 hinP hinQ HP7 HQ7 HO8 HGR8 H67 HX7 HKY7 HC7 HG7 hbs7 hflat
        have hw3 := HW3.out
        have hw4 := HW4.out
        go_wp2_with fail
        clear hw3 hw4
        go_roundw
        case rel => exact ⟨k + 1, f + r, _, _, _, _, _, _, _, _, by omega, hfr, by go_num, rfl, rfl, rfl, HP8.out, HQ8.out, HFL.out _ HPF.out, HFL.out _ HQF.out, by simp [HPL.out], by simp [HQL.out], HC8.out, HD8.out, HKY8.out, HX8.out, HG8.out, HBS8.out, fun _ => HFE.out⟩
        case measure => simp [intOf] <;> omega

      · obtain rfl : k = n1 + 1 := by omega
        have hfn : f = n := HEND.out rfl
        subst hfn
        have hk1 : decide (((n1 + 1 : Nat) : Int) ≤ (n1 : Int)) = false := decide_eq_false (by omega)
        have hk2 : decide (((n1 : Int) + 1) ≤ (n1 : Int)) = false := decide_eq_false (by omega)
        have hxt : X.take f = X := List.take_of_length_le (by rw [HXL.out]; exact Nat.le_refl _)
        have HPX := Lib.hid (HPF.out.trans hxt)
        have HQX := Lib.hid (HQF.out.trans hxt)
        have hfp : ps.flatten.length ≤ 1000000000 := by rw [HPX.out, HXL.out]; omega
        have hfq : qs.flatten.length ≤ 1000000000 := by rw [HQX.out, HXL.out]; omega
        have HFP := Lib.hid hfp
        have HFQ := Lib.hid hfq
        have HXM := Lib.hid (show X.length ≤ maxLen by rw [HXL.out]; unfold maxLen; omega)
        clear hxt hfp hfq
        go_wp2_with fail
        refine (joinB_n aP cP (n1 + 1) LP ps wr HPP.out.lies HPL.out HFP.out (by omega)).mono ?_
        rintro e w2 ⟨a4, m4, c4, rfl, ho, g⟩
        rw [HPX.out] at ho
        have HJ := Lib.hid ho
        replace HG := Lib.hid (grownBy_trans HG.out g)
        replace HX := Lib.hid (HX.out.grown g)
        replace HC := Lib.hid (HC.out.grown g)
        replace HQQ := Lib.hid (HQQ.out.ch (Ch.ofNone g (fun _ => False)) (fun _ _ h => h))
        clear ho g
        go_wp2_with fail
        refine (same_yes _ _ _ _ _ _ X _ (BOwn.lies HJ.out) (BOwn.lies HX.out) HJ.out.len HX.out.len (by rw [← HJ.out.len]; exact HXM.out)).mono ?_
        rintro e w3 ⟨rfl, q, hq⟩
        have g := drewg hq
        replace HG := Lib.hid (grownBy_trans HG.out g)
        replace HX := Lib.hid (HX.out.grown g)
        replace HC := Lib.hid (HC.out.grown g)
        replace HQQ := Lib.hid (HQQ.out.ch (Ch.ofNone g (fun _ => False)) (fun _ _ h => h))
        clear hq g
        go_wp2_with fail
        refine (joinB_n aQ cQ (n1 + 1) LQ qs _ HQQ.out.lies HQL.out HFQ.out (by omega)).mono ?_
        rintro e w4 ⟨a5, m5, c5, rfl, ho, g⟩
        rw [HQX.out] at ho
        have HJ2 := Lib.hid ho
        replace HG := Lib.hid (grownBy_trans HG.out g)
        replace HX := Lib.hid (HX.out.grown g)
        replace HC := Lib.hid (HC.out.grown g)
        clear ho g
        go_wp2_with fail
        refine (same_yes _ _ _ _ _ _ X _ (BOwn.lies HJ2.out) (BOwn.lies HX.out) HJ2.out.len HX.out.len (by rw [← HJ2.out.len]; exact HXM.out)).mono ?_
        rintro e w5 ⟨rfl, q2, hq⟩
        have g := drewg hq
        replace HG := Lib.hid (grownBy_trans HG.out g)
        replace HC := Lib.hid (HC.out.grown g)
        clear hq g
        go_wp2_with fail
        refine (atc_n key hkl gC _ _ HC.out).mono ?_
        rintro e w6 ⟨rfl, rfl⟩
        have HYB := Lib.hid (show -9223372036854775808 ≤ x + (f : Int) ∧ x + (f : Int) ≤ 9223372036854775807 by have := HXB.out; omega)
        have hy1 : wrap64 (x + (f : Int)) = x + (f : Int) := IntWalk.wrap64_in _ HYB.out
        have hy2 : IntKind.i64.wrap (x + (f : Int)) = x + (f : Int) := IntWalk.i64_in _ HYB.out
        go_wp2_with fail
        go_ret
        exact ⟨rfl, grownBy_trans HG1.out HG.out⟩
end Go.Proofs.Ytblgdfamomlklaa
