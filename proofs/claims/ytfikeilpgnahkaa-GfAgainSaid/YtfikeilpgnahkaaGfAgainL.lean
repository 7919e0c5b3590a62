/- The law GfAgain. -/
import Derived.Test.YtfikeilpgnahkaaGfPts
import Derived.Test.YtfikeilpgnahkaaGfAwake
namespace Go.Proofs.Ytfikeilpgnahkaa
open Go.RowKit Go.Shelf

theorem lit_news (w : World) (xs : List Value) (t : TypeId) : ∀ j u, xs[j]? = some u → (w.alloc (.cells xs.toArray t)).cell? ((⟨w.heap.size, 0, none⟩ : Addr).add j) = some u := by
  intro j u hu
  have hadd : (⟨w.heap.size, 0, none⟩ : Addr).add j = ⟨w.heap.size, j, none⟩ := by unfold Addr.add; split <;> simp_all
  rw [hadd, Row.cell (show Row (w.alloc (.cells xs.toArray t)) w.heap.size t xs.toArray from heap_alloc_new w _)]
  simpa using hu
theorem u8_zero (a : UInt8) : ((a.toNat : Int) == 0) = decide (a = 0) := by
  rw [show (0 : Int) = ((0 : UInt8).toNat : Int) from rfl, u8_beq]

set_option maxRecDepth 100000 in
set_option maxHeartbeats 4000000 in
theorem again_walk (a : Option Addr) (ca n : Nat) (la : List UInt8) (first more : UInt8) (w : World) (ha : BLies w a la) (hla : la.length = n) (hn : n ≤ 140737488351232) (hca : n ≤ ca) :
    Calls Try.prog 8 #[.slice a n ca, .int .u8 (first.toNat : Int), .int .u8 (more.toNat : Int)] w fun e w' => e = .returned (.bool true) ∧ w.grownBy w' none := by
  obtain ⟨r, hr⟩ : ∃ r : Nat, r = more.toNat % 30 := ⟨_, rfl⟩
  have hr30 : r < 30 := by rw [hr]; exact Nat.mod_lt _ (by decide)
  have hrt : ((more.toNat : Int)).tmod 30 = (r : Int) := by rw [hr, Int.tmod_eq_emod_of_nonneg (by omega)]; omega
  have hrm : ((more.toNat : Int)) % 30 = (r : Int) := by rw [hr]; omega
  have hcv : IntKind.i64.wrap (more.toNat : Int) = (more.toNat : Int) := by have := more.toNat_lt; exact IntWalk.i64_in _ (by omega)
  have hmo := more.toNat_lt
  clear hr
  by_cases hbig : 100 < n
  · have hd : decide ((100 : Int) < (n : Int)) = true := by simp; omega
    obtain ⟨c, hc⟩ : ∃ c, c = la.take 100 := ⟨_, rfl⟩
    have HC := Lib.hid (show BLies w a c by rw [hc]; exact ha.take 100)
    have hcl : c.length = 100 := by rw [hc, List.length_take]; omega
    have hcc : 100 ≤ ca := by omega
    have hd100 : decide ((0 : Int) ≤ 100) = true := rfl
    have hle2 : decide ((100 : Int) ≤ (ca : Int)) = true := by simp; omega
    clear ha hla hn hc
    go_enter Try.func8, Try.ntmps8
    go_wp2_with fail
    obtain ⟨q, hq⟩ : ∃ q, q = trimN c 100 := ⟨_, rfl⟩
    have hqn : q ≤ 100 := by rw [hq]; exact trimN_le _ _
    have HQ := Lib.hid hq
    have HCL := Lib.hid hcl
    clear hq hcl
    go_loop [7] (fun u => ∃ k : Nat, k ≤ 100 ∧ u = .int .i64 k ∧ trimN c k = q) (fun u => (intOf u).toNat)
    case atStart => exact ⟨100, Nat.le_refl _, rfl, HQ.out.symm⟩
    case round =>
      obtain ⟨k, hk, rfl, ht⟩ := hrel
      have HTK := Lib.hid ht
      clear ht
      by_cases hgo : ∃ j, k = j + 1 ∧ c.getD j 0 = 0
      · obtain ⟨j, rfl, hz⟩ := hgo
        have hjl : j < c.length := by rw [HCL.out]; omega
        obtain ⟨bb, off, hbb, hc2⟩ := HC.out j hjl
        subst hbb
        have hd0 : c.getD j 0 = c[j] := by simp [hjl]
        have hh : trimN c j = q := by rw [← HTK.out, trimN, if_pos hz]
        rw [← hd0, hz] at hc2
        have e1 : IntKind.i64.wrap (((j + 1 : Nat) : Int) - 1) = (j : Int) := by rw [show ((j + 1 : Nat) : Int) - 1 = (j : Int) by omega]; exact IntWalk.i64_in _ (by omega)
        have HH := Lib.hid hh
        clear hh hd0 hz
        go_wp2_with fail
        go_round
        case rel => exact ⟨j, by omega, by first | rfl | go_num, HH.out⟩
        case measure => simp [intOf]
      · have hkq : k = q := by
          rcases Nat.eq_zero_or_pos k with rfl | hpos
          · exact HTK.out
          · obtain ⟨j, rfl⟩ : ∃ j, k = j + 1 := ⟨k - 1, by omega⟩
            have := HTK.out
            rwa [trimN, if_neg (fun h => hgo ⟨j, rfl, h⟩)] at this
        have hstep : ∀ j, q = j + 1 → ∃ b off, a = some ⟨b, off, none⟩ ∧ ∃ y : UInt8, w.cell? ⟨b, off + j, none⟩ = some (.int .u8 (y.toNat : Int)) ∧ ((y.toNat : Int) == 0) = false := by
          intro j hj
          have hjl : j < c.length := by rw [HCL.out]; omega
          obtain ⟨bb, off, hbb, hc2⟩ := HC.out j hjl
          refine ⟨bb, off, hbb, _, hc2, ?_⟩
          simp only [beq_eq_false_iff_ne, ne_eq]
          intro h
          apply hgo
          refine ⟨j, by omega, ?_⟩
          have : c[j] = 0 := UInt8.toNat.inj (by simpa using h)
          simpa [hjl] using this
        subst hkq
        have HSTEP := Lib.hid hstep
        clear hstep hgo
        rcases Nat.eq_zero_or_pos k with hk0 | hpos
        · subst hk0
          have hgt : decide ((0 : Int) < ((0 : Nat) : Int)) = false := rfl
          rw [show ((0 : Nat) : Int) = 0 from rfl]
          go_wp2_with fail
          obtain ⟨M, hM⟩ : ∃ M, M = 100 + r := ⟨_, rfl⟩
          have hM1 : IntKind.i64.wrap ((100 : Int) + (r : Int)) = (M : Int) := by rw [show (100 : Int) + (r : Int) = (M : Int) by omega]; exact IntWalk.i64_in _ (by omega)
          have hM2 : (100 : Int) + (r : Int) = (M : Int) := by omega
          have hMb : M ≤ 130 := by omega
          have HM := Lib.hid hM
          clear hM
          go_loopw [8, 9, 10] (fun vp vz vi wr => ∃ (i : Nat) (ap : Option Addr) (np cp : Nat), i ≤ 256 ∧ np ≤ i ∧ vi = .int .i64 i ∧ vz = .int .i64 (zC c first i : Nat) ∧ vp = .slice ap np cp ∧ Own wr w.heap.size 54 2 ap np cp (pcells (ptL c first M i)) ∧ w.grownBy wr none) (fun _ _ vi _ => 256 - (intOf vi).toNat)
          case atStart => exact ⟨0, none, 0, 0, by omega, by omega, rfl, rfl, rfl, Own.nil _ _ _ _ _, World.grownBy.refl _ _⟩
          case round =>
            obtain ⟨i, ap, np, cp, hi, hnp, rfl, rfl, rfl, hown, hg⟩ := hrel
            have HO := Lib.hid hown
            have HG := Lib.hid hg
            clear hown hg
            obtain ⟨z, hz⟩ : ∃ z, z = zC c first i := ⟨_, rfl⟩
            have hzi : z ≤ i := by rw [hz]; exact zC_le _ _ _
            rw [← hz]
            by_cases hlt : i < 256
            · obtain ⟨x, hx⟩ : ∃ x, x = xI first i := ⟨_, rfl⟩
              have hxv := xI_val first i hlt
              rw [← hx] at hxv
              have hcv5 : IntKind.u8.wrap (i : Int) = (i : Int) := IntWalk.u8_in _ (by omega)
              obtain ⟨y, hy⟩ : ∃ y, y = evL c x := ⟨_, rfl⟩
              have hzs : zC c first (i + 1) = z + if y = 0 then 1 else 0 := by rw [zC_succ, ← hz, ← hx, ← hy]
              have hst : i < M → ptL c first M (i + 1) = ptL c first M i ++ [(x, y)] := fun h => by rw [ptL_step _ _ _ _ h, ← hx, ← hy]
              have hsy : M ≤ i → ptL c first M (i + 1) = ptL c first M i := ptL_stay c first M i
              obtain ⟨pl, hpl⟩ : ∃ pl, pl = ptL c first M i := ⟨_, rfl⟩
              rw [← hpl] at hst hsy HO
              have hev : ∀ W, w.grownBy W none → Calls Try.prog 29 #[.slice a 100 ca, .int .u8 (x.toNat : Int)] W fun e w' => e = .returned (.int .u8 (y.toNat : Int)) ∧ ∃ q, w' = W.drewN q := fun W hg => by
                rw [hy]
                exact eval_n _ _ _ c x W (HC.out.grown hg) HCL.out (by unfold maxLen; omega)
              have HEV := Lib.hid hev
              have HZS := Lib.hid hzs
              have HST := Lib.hid hst
              have HSY := Lib.hid hsy
              clear hx hy hz hzs hst hsy hpl hev
              have hu8 := u8_zero y
              go_wp2_with fail
              refine (HEV.out _ HG.out).mono ?_
              rintro e w' ⟨rfl, qq, rfl⟩
              obtain ⟨W2, hW2⟩ : ∃ W2, W2 = wr.drewN qq := ⟨_, rfl⟩
              rw [← hW2]
              have hg2 : wr.grownBy W2 none := hW2 ▸ grownBy_drewN wr qq none
              have HG2 := Lib.hid (grownBy_trans HG.out hg2)
              have HO2 := Lib.hid (Own.ch HO.out (Ch.ofNone hg2 (fun _ => False)) (fun _ _ _ h => h))
              clear hW2 hg2
              by_cases hy0 : y = 0
              · have hzz : ((y.toNat : Int) == 0) = true := by rw [hu8]; simpa using hy0
                have hzw : IntKind.i64.wrap ((z : Int) + 1) = (z : Int) + 1 := IntWalk.i64_in _ (by omega)
                have hz1 : zC c first (i + 1) = z + 1 := by rw [HZS.out, if_pos hy0]
                have HZ1 := Lib.hid hz1
                clear hu8 hy0 hz1
                by_cases hiM : i < M
                · have hdM : decide ((i : Int) < (M : Int)) = true := by simp; omega
                  go_wp2_with (at_builtin; refine wpList_app elP rfl (.tmp 57) (.tmp 61) rfl rfl (Own.ch HO2.out (Ch.ofNone (World.grownBy_alloc W2 (.cells #[.int .u8 (x.toNat : Int), .int .u8 (y.toNat : Int)] 54) none) (fun _ => False)) (fun _ _ _ h => h)) ⟨W2.heap.size, 0, none⟩ 1 1 [.int .u8 (x.toNat : Int), .int .u8 (y.toNat : Int)] rfl rfl (lit_news W2 _ 54) (by intro u hu; simp at hu; rcases hu with rfl | rfl <;> rfl) (by unfold maxLen; omega) (by omega) (by have := HG2.out.size; rw [World.size_alloc]; omega) (by omega) ?_; intro g cap w1 hown1 hgr; have HO3 := Lib.hid hown1; have HG3 := Lib.hid (hgr.grew.grown (Own.ch HO2.out (Ch.ofNone (World.grownBy_alloc W2 (.cells #[.int .u8 (x.toNat : Int), .int .u8 (y.toNat : Int)] 54) none) (fun _ => False)) (fun _ _ _ h => h)) (grownBy_trans HG2.out (World.grownBy_alloc _ _ none)) (Nat.le_refl _)); clear hown1 hgr)
                  go_roundw
                  case rel =>
                    refine ⟨i + 1, _, _, _, by omega, by omega, by go_num, by rw [HZ1.out]; go_num, rfl, ?_, HG3.out⟩
                    rw [HST.out hiM, pcells_append]
                    exact HO3.out
                  case measure => simp [intOf]; omega
                · have hdM : decide ((i : Int) < (M : Int)) = false := by simp; omega
                  go_wp2_with fail
                  go_roundw
                  case rel =>
                    refine ⟨i + 1, _, _, _, by omega, by omega, by go_num, by rw [HZ1.out]; go_num, rfl, ?_, HG2.out⟩
                    rw [HSY.out (by omega)]
                    exact HO2.out
                  case measure => simp [intOf]; omega
              · have hzz : ((y.toNat : Int) == 0) = false := by rw [hu8]; simpa using hy0
                have hz1 : zC c first (i + 1) = z := by rw [HZS.out, if_neg hy0]; omega
                have HZ1 := Lib.hid hz1
                clear hu8 hy0 hz1
                by_cases hiM : i < M
                · have hdM : decide ((i : Int) < (M : Int)) = true := by simp; omega
                  go_wp2_with (at_builtin; refine wpList_app elP rfl (.tmp 57) (.tmp 61) rfl rfl (Own.ch HO2.out (Ch.ofNone (World.grownBy_alloc W2 (.cells #[.int .u8 (x.toNat : Int), .int .u8 (y.toNat : Int)] 54) none) (fun _ => False)) (fun _ _ _ h => h)) ⟨W2.heap.size, 0, none⟩ 1 1 [.int .u8 (x.toNat : Int), .int .u8 (y.toNat : Int)] rfl rfl (lit_news W2 _ 54) (by intro u hu; simp at hu; rcases hu with rfl | rfl <;> rfl) (by unfold maxLen; omega) (by omega) (by have := HG2.out.size; rw [World.size_alloc]; omega) (by omega) ?_; intro g cap w1 hown1 hgr; have HO3 := Lib.hid hown1; have HG3 := Lib.hid (hgr.grew.grown (Own.ch HO2.out (Ch.ofNone (World.grownBy_alloc W2 (.cells #[.int .u8 (x.toNat : Int), .int .u8 (y.toNat : Int)] 54) none) (fun _ => False)) (fun _ _ _ h => h)) (grownBy_trans HG2.out (World.grownBy_alloc _ _ none)) (Nat.le_refl _)); clear hown1 hgr)
                  go_roundw
                  case rel =>
                    refine ⟨i + 1, _, _, _, by omega, by omega, by go_num, by rw [HZ1.out], rfl, ?_, HG3.out⟩
                    rw [HST.out hiM, pcells_append]
                    exact HO3.out
                  case measure => simp [intOf]; omega
                · have hdM : decide ((i : Int) < (M : Int)) = false := by simp; omega
                  go_wp2_with fail
                  go_roundw
                  case rel =>
                    refine ⟨i + 1, _, _, _, by omega, by omega, by go_num, by rw [HZ1.out], rfl, ?_, HG2.out⟩
                    rw [HSY.out (by omega)]
                    exact HO2.out
                  case measure => simp [intOf]; omega
            · obtain rfl : i = 256 := by omega
              have hfew := zC_few c first
              rw [← hz, trimL_len, HCL.out, ← HQ.out] at hfew
              have hal := again_val c first M (by omega) (by rw [trimL_len, HCL.out, ← HQ.out]; have := HM.out; omega)
              have hpl := ptL_len c first M 256
              have hnpl : np = (ptL c first M 256).length := by have h1 := HO.out.1; rw [pcells_len] at h1; omega
              obtain ⟨pl, hple⟩ : ∃ pl, pl = ptL c first M 256 := ⟨_, rfl⟩
              rw [← hple] at hal HO hnpl
              have hth := through_n ap cp np pl wr (Own.plies HO.out) hnpl.symm (by omega)
              rw [hal.1, hal.2] at hth
              obtain ⟨P, hP⟩ : ∃ P, P = trimL c := ⟨_, rfl⟩
              have hPl : P.length = 0 := by rw [hP, trimL_len, HCL.out, ← HQ.out]
              have hPt : P = c.take 0 := by rw [hP]; unfold trimL; rw [HCL.out, ← HQ.out]
              rw [← hP] at hth
              have HTH := Lib.hid hth
              have HPL := Lib.hid hPl
              have HPT := Lib.hid hPt
              clear hz hfew hal hpl hnpl hple hth hP hPl hPt
              go_wp2_with fail
              refine HTH.out.mono ?_
              rintro e V0 ⟨aP, nP, cP, rfl, oP, g⟩
              obtain rfl : 0 = nP := by have := oP.len; have := HPL.out; omega
              have OP := Lib.hid oP
              have HG3 := Lib.hid (grownBy_trans HG.out g)
              clear oP g
              have hsl : BLies V0 a P := by rw [HPT.out]; exact (HC.out.grown HG3.out).take _
              have HSL := Lib.hid hsl
              clear hsl
              go_wp2_with fail
              refine (same_yes _ _ _ _ _ _ P _ (BOwn.lies OP.out) HSL.out HPL.out HPL.out (by unfold maxLen; omega)).mono ?_
              rintro e V1 ⟨rfl, q1, hq1⟩
              have HG4 := Lib.hid (grownBy_trans HG3.out (by rw [hq1]; exact grownBy_drewN _ _ _ : V0.grownBy V1 none))
              clear hq1
              go_wp2_with fail
              refine (awake_n _).mono ?_
              rintro e V2 ⟨rfl, g⟩
              have HG5 := Lib.hid (grownBy_trans HG4.out g)
              clear g
              go_wp2_with fail
              go_ret
              exact ⟨rfl, HG5.out⟩
        · obtain ⟨j, hkj⟩ : ∃ j, k = j + 1 := ⟨k - 1, by omega⟩
          obtain ⟨b, off, hbb, y, hcy, hyz⟩ := HSTEP.out j hkj
          have e1 : IntKind.i64.wrap ((k : Int) - 1) = (j : Int) := by rw [show (k : Int) - 1 = (j : Int) by omega]; exact IntWalk.i64_in _ (by omega)
          have hgt : decide ((0 : Int) < (k : Int)) = true := by simp; omega
          have hjn : j < 100 := by omega
          have HKJ := Lib.hid hkj
          clear hkj
          subst hbb
          go_wp2_with fail
          clear hcy hyz e1 hjn
          obtain ⟨M, hM⟩ : ∃ M, M = 100 + r := ⟨_, rfl⟩
          have hM1 : IntKind.i64.wrap ((100 : Int) + (r : Int)) = (M : Int) := by rw [show (100 : Int) + (r : Int) = (M : Int) by omega]; exact IntWalk.i64_in _ (by omega)
          have hM2 : (100 : Int) + (r : Int) = (M : Int) := by omega
          have hMb : M ≤ 130 := by omega
          have HM := Lib.hid hM
          clear hM
          go_loopw [8, 9, 10] (fun vp vz vi wr => ∃ (i : Nat) (ap : Option Addr) (np cp : Nat), i ≤ 256 ∧ np ≤ i ∧ vi = .int .i64 i ∧ vz = .int .i64 (zC c first i : Nat) ∧ vp = .slice ap np cp ∧ Own wr w.heap.size 54 2 ap np cp (pcells (ptL c first M i)) ∧ w.grownBy wr none) (fun _ _ vi _ => 256 - (intOf vi).toNat)
          case atStart => exact ⟨0, none, 0, 0, by omega, by omega, rfl, rfl, rfl, Own.nil _ _ _ _ _, World.grownBy.refl _ _⟩
          case round =>
            obtain ⟨i, ap, np, cp, hi, hnp, rfl, rfl, rfl, hown, hg⟩ := hrel
            have HO := Lib.hid hown
            have HG := Lib.hid hg
            clear hown hg
            obtain ⟨z, hz⟩ : ∃ z, z = zC c first i := ⟨_, rfl⟩
            have hzi : z ≤ i := by rw [hz]; exact zC_le _ _ _
            rw [← hz]
            by_cases hlt : i < 256
            · obtain ⟨x, hx⟩ : ∃ x, x = xI first i := ⟨_, rfl⟩
              have hxv := xI_val first i hlt
              rw [← hx] at hxv
              have hcv5 : IntKind.u8.wrap (i : Int) = (i : Int) := IntWalk.u8_in _ (by omega)
              obtain ⟨y, hy⟩ : ∃ y, y = evL c x := ⟨_, rfl⟩
              have hzs : zC c first (i + 1) = z + if y = 0 then 1 else 0 := by rw [zC_succ, ← hz, ← hx, ← hy]
              have hst : i < M → ptL c first M (i + 1) = ptL c first M i ++ [(x, y)] := fun h => by rw [ptL_step _ _ _ _ h, ← hx, ← hy]
              have hsy : M ≤ i → ptL c first M (i + 1) = ptL c first M i := ptL_stay c first M i
              obtain ⟨pl, hpl⟩ : ∃ pl, pl = ptL c first M i := ⟨_, rfl⟩
              rw [← hpl] at hst hsy HO
              have hev : ∀ W, w.grownBy W none → Calls Try.prog 29 #[.slice (some ⟨b, off, none⟩) 100 ca, .int .u8 (x.toNat : Int)] W fun e w' => e = .returned (.int .u8 (y.toNat : Int)) ∧ ∃ q, w' = W.drewN q := fun W hg => by
                rw [hy]
                exact eval_n _ _ _ c x W (HC.out.grown hg) HCL.out (by unfold maxLen; omega)
              have HEV := Lib.hid hev
              have HZS := Lib.hid hzs
              have HST := Lib.hid hst
              have HSY := Lib.hid hsy
              clear hx hy hz hzs hst hsy hpl hev
              have hu8 := u8_zero y
              go_wp2_with fail
              refine (HEV.out _ HG.out).mono ?_
              rintro e w' ⟨rfl, qq, rfl⟩
              obtain ⟨W2, hW2⟩ : ∃ W2, W2 = wr.drewN qq := ⟨_, rfl⟩
              rw [← hW2]
              have hg2 : wr.grownBy W2 none := hW2 ▸ grownBy_drewN wr qq none
              have HG2 := Lib.hid (grownBy_trans HG.out hg2)
              have HO2 := Lib.hid (Own.ch HO.out (Ch.ofNone hg2 (fun _ => False)) (fun _ _ _ h => h))
              clear hW2 hg2
              by_cases hy0 : y = 0
              · have hzz : ((y.toNat : Int) == 0) = true := by rw [hu8]; simpa using hy0
                have hzw : IntKind.i64.wrap ((z : Int) + 1) = (z : Int) + 1 := IntWalk.i64_in _ (by omega)
                have hz1 : zC c first (i + 1) = z + 1 := by rw [HZS.out, if_pos hy0]
                have HZ1 := Lib.hid hz1
                clear hu8 hy0 hz1
                by_cases hiM : i < M
                · have hdM : decide ((i : Int) < (M : Int)) = true := by simp; omega
                  go_wp2_with (at_builtin; refine wpList_app elP rfl (.tmp 57) (.tmp 61) rfl rfl (Own.ch HO2.out (Ch.ofNone (World.grownBy_alloc W2 (.cells #[.int .u8 (x.toNat : Int), .int .u8 (y.toNat : Int)] 54) none) (fun _ => False)) (fun _ _ _ h => h)) ⟨W2.heap.size, 0, none⟩ 1 1 [.int .u8 (x.toNat : Int), .int .u8 (y.toNat : Int)] rfl rfl (lit_news W2 _ 54) (by intro u hu; simp at hu; rcases hu with rfl | rfl <;> rfl) (by unfold maxLen; omega) (by omega) (by have := HG2.out.size; rw [World.size_alloc]; omega) (by omega) ?_; intro g cap w1 hown1 hgr; have HO3 := Lib.hid hown1; have HG3 := Lib.hid (hgr.grew.grown (Own.ch HO2.out (Ch.ofNone (World.grownBy_alloc W2 (.cells #[.int .u8 (x.toNat : Int), .int .u8 (y.toNat : Int)] 54) none) (fun _ => False)) (fun _ _ _ h => h)) (grownBy_trans HG2.out (World.grownBy_alloc _ _ none)) (Nat.le_refl _)); clear hown1 hgr)
                  go_roundw
                  case rel =>
                    refine ⟨i + 1, _, _, _, by omega, by omega, by go_num, by rw [HZ1.out]; go_num, rfl, ?_, HG3.out⟩
                    rw [HST.out hiM, pcells_append]
                    exact HO3.out
                  case measure => simp [intOf]; omega
                · have hdM : decide ((i : Int) < (M : Int)) = false := by simp; omega
                  go_wp2_with fail
                  go_roundw
                  case rel =>
                    refine ⟨i + 1, _, _, _, by omega, by omega, by go_num, by rw [HZ1.out]; go_num, rfl, ?_, HG2.out⟩
                    rw [HSY.out (by omega)]
                    exact HO2.out
                  case measure => simp [intOf]; omega
              · have hzz : ((y.toNat : Int) == 0) = false := by rw [hu8]; simpa using hy0
                have hz1 : zC c first (i + 1) = z := by rw [HZS.out, if_neg hy0]; omega
                have HZ1 := Lib.hid hz1
                clear hu8 hy0 hz1
                by_cases hiM : i < M
                · have hdM : decide ((i : Int) < (M : Int)) = true := by simp; omega
                  go_wp2_with (at_builtin; refine wpList_app elP rfl (.tmp 57) (.tmp 61) rfl rfl (Own.ch HO2.out (Ch.ofNone (World.grownBy_alloc W2 (.cells #[.int .u8 (x.toNat : Int), .int .u8 (y.toNat : Int)] 54) none) (fun _ => False)) (fun _ _ _ h => h)) ⟨W2.heap.size, 0, none⟩ 1 1 [.int .u8 (x.toNat : Int), .int .u8 (y.toNat : Int)] rfl rfl (lit_news W2 _ 54) (by intro u hu; simp at hu; rcases hu with rfl | rfl <;> rfl) (by unfold maxLen; omega) (by omega) (by have := HG2.out.size; rw [World.size_alloc]; omega) (by omega) ?_; intro g cap w1 hown1 hgr; have HO3 := Lib.hid hown1; have HG3 := Lib.hid (hgr.grew.grown (Own.ch HO2.out (Ch.ofNone (World.grownBy_alloc W2 (.cells #[.int .u8 (x.toNat : Int), .int .u8 (y.toNat : Int)] 54) none) (fun _ => False)) (fun _ _ _ h => h)) (grownBy_trans HG2.out (World.grownBy_alloc _ _ none)) (Nat.le_refl _)); clear hown1 hgr)
                  go_roundw
                  case rel =>
                    refine ⟨i + 1, _, _, _, by omega, by omega, by go_num, by rw [HZ1.out], rfl, ?_, HG3.out⟩
                    rw [HST.out hiM, pcells_append]
                    exact HO3.out
                  case measure => simp [intOf]; omega
                · have hdM : decide ((i : Int) < (M : Int)) = false := by simp; omega
                  go_wp2_with fail
                  go_roundw
                  case rel =>
                    refine ⟨i + 1, _, _, _, by omega, by omega, by go_num, by rw [HZ1.out], rfl, ?_, HG2.out⟩
                    rw [HSY.out (by omega)]
                    exact HO2.out
                  case measure => simp [intOf]; omega
            · obtain rfl : i = 256 := by omega
              have hfew := zC_few c first
              rw [← hz, trimL_len, HCL.out, ← HQ.out] at hfew
              have hal := again_val c first M (by omega) (by rw [trimL_len, HCL.out, ← HQ.out]; have := HM.out; omega)
              have hpl := ptL_len c first M 256
              have hnpl : np = (ptL c first M 256).length := by have h1 := HO.out.1; rw [pcells_len] at h1; omega
              obtain ⟨pl, hple⟩ : ∃ pl, pl = ptL c first M 256 := ⟨_, rfl⟩
              rw [← hple] at hal HO hnpl
              have hth := through_n ap cp np pl wr (Own.plies HO.out) hnpl.symm (by omega)
              rw [hal.1, hal.2] at hth
              obtain ⟨P, hP⟩ : ∃ P, P = trimL c := ⟨_, rfl⟩
              have hPl : P.length = k := by rw [hP, trimL_len, HCL.out, ← HQ.out]
              have hPt : P = c.take k := by rw [hP]; unfold trimL; rw [HCL.out, ← HQ.out]
              rw [← hP] at hth
              have HTH := Lib.hid hth
              have HPL := Lib.hid hPl
              have HPT := Lib.hid hPt
              have hge : decide (k ≤ z) = false := by simp; have := hfew (by omega); omega
              clear hz hfew hal hpl hnpl hple hth hP hPl hPt
              go_wp2_with fail
              refine HTH.out.mono ?_
              rintro e V0 ⟨aP, nP, cP, rfl, oP, g⟩
              obtain rfl : k = nP := by have := oP.len; have := HPL.out; omega
              have OP := Lib.hid oP
              have HG3 := Lib.hid (grownBy_trans HG.out g)
              clear oP g
              have hsl : BLies V0 (some ⟨b, off, none⟩) P := by rw [HPT.out]; exact (HC.out.grown HG3.out).take _
              have HSL := Lib.hid hsl
              clear hsl
              go_wp2_with fail
              refine (same_yes _ _ _ _ _ _ P _ (BOwn.lies OP.out) HSL.out HPL.out HPL.out (by unfold maxLen; omega)).mono ?_
              rintro e V1 ⟨rfl, q1, hq1⟩
              have HG4 := Lib.hid (grownBy_trans HG3.out (by rw [hq1]; exact grownBy_drewN _ _ _ : V0.grownBy V1 none))
              clear hq1
              go_wp2_with fail
              refine (awake_n _).mono ?_
              rintro e V2 ⟨rfl, g⟩
              have HG5 := Lib.hid (grownBy_trans HG4.out g)
              clear g
              go_wp2_with fail
              go_ret
              exact ⟨rfl, HG5.out⟩
  · have hd : decide ((100 : Int) < (n : Int)) = false := by simp; omega
    obtain ⟨c, hc⟩ : ∃ c, c = la := ⟨_, rfl⟩
    rw [← hc] at ha hla
    have HC := Lib.hid ha
    have hcl := hla
    clear ha hla hn hc
    go_enter Try.func8, Try.ntmps8
    go_wp2_with fail
    obtain ⟨q, hq⟩ : ∃ q, q = trimN c n := ⟨_, rfl⟩
    have hqn : q ≤ n := by rw [hq]; exact trimN_le _ _
    have HQ := Lib.hid hq
    have HCL := Lib.hid hcl
    clear hq hcl
    go_loop [7] (fun u => ∃ k : Nat, k ≤ n ∧ u = .int .i64 k ∧ trimN c k = q) (fun u => (intOf u).toNat)
    case atStart => exact ⟨n, Nat.le_refl _, rfl, HQ.out.symm⟩
    case round =>
      obtain ⟨k, hk, rfl, ht⟩ := hrel
      have HTK := Lib.hid ht
      clear ht
      by_cases hgo : ∃ j, k = j + 1 ∧ c.getD j 0 = 0
      · obtain ⟨j, rfl, hz⟩ := hgo
        have hjl : j < c.length := by rw [HCL.out]; omega
        obtain ⟨bb, off, hbb, hc2⟩ := HC.out j hjl
        subst hbb
        have hd0 : c.getD j 0 = c[j] := by simp [hjl]
        have hh : trimN c j = q := by rw [← HTK.out, trimN, if_pos hz]
        rw [← hd0, hz] at hc2
        have e1 : IntKind.i64.wrap (((j + 1 : Nat) : Int) - 1) = (j : Int) := by rw [show ((j + 1 : Nat) : Int) - 1 = (j : Int) by omega]; exact IntWalk.i64_in _ (by omega)
        have HH := Lib.hid hh
        clear hh hd0 hz
        go_wp2_with fail
        go_round
        case rel => exact ⟨j, by omega, by first | rfl | go_num, HH.out⟩
        case measure => simp [intOf]
      · have hkq : k = q := by
          rcases Nat.eq_zero_or_pos k with rfl | hpos
          · exact HTK.out
          · obtain ⟨j, rfl⟩ : ∃ j, k = j + 1 := ⟨k - 1, by omega⟩
            have := HTK.out
            rwa [trimN, if_neg (fun h => hgo ⟨j, rfl, h⟩)] at this
        have hstep : ∀ j, q = j + 1 → ∃ b off, a = some ⟨b, off, none⟩ ∧ ∃ y : UInt8, w.cell? ⟨b, off + j, none⟩ = some (.int .u8 (y.toNat : Int)) ∧ ((y.toNat : Int) == 0) = false := by
          intro j hj
          have hjl : j < c.length := by rw [HCL.out]; omega
          obtain ⟨bb, off, hbb, hc2⟩ := HC.out j hjl
          refine ⟨bb, off, hbb, _, hc2, ?_⟩
          simp only [beq_eq_false_iff_ne, ne_eq]
          intro h
          apply hgo
          refine ⟨j, by omega, ?_⟩
          have : c[j] = 0 := UInt8.toNat.inj (by simpa using h)
          simpa [hjl] using this
        subst hkq
        have HSTEP := Lib.hid hstep
        clear hstep hgo
        rcases Nat.eq_zero_or_pos k with hk0 | hpos
        · subst hk0
          have hgt : decide ((0 : Int) < ((0 : Nat) : Int)) = false := rfl
          rw [show ((0 : Nat) : Int) = 0 from rfl]
          go_wp2_with fail
          obtain ⟨M, hM⟩ : ∃ M, M = n + r := ⟨_, rfl⟩
          have hM1 : IntKind.i64.wrap ((n : Int) + (r : Int)) = (M : Int) := by rw [show (n : Int) + (r : Int) = (M : Int) by omega]; exact IntWalk.i64_in _ (by omega)
          have hM2 : (n : Int) + (r : Int) = (M : Int) := by omega
          have hMb : M ≤ 130 := by omega
          have HM := Lib.hid hM
          clear hM
          go_loopw [8, 9, 10] (fun vp vz vi wr => ∃ (i : Nat) (ap : Option Addr) (np cp : Nat), i ≤ 256 ∧ np ≤ i ∧ vi = .int .i64 i ∧ vz = .int .i64 (zC c first i : Nat) ∧ vp = .slice ap np cp ∧ Own wr w.heap.size 54 2 ap np cp (pcells (ptL c first M i)) ∧ w.grownBy wr none) (fun _ _ vi _ => 256 - (intOf vi).toNat)
          case atStart => exact ⟨0, none, 0, 0, by omega, by omega, rfl, rfl, rfl, Own.nil _ _ _ _ _, World.grownBy.refl _ _⟩
          case round =>
            obtain ⟨i, ap, np, cp, hi, hnp, rfl, rfl, rfl, hown, hg⟩ := hrel
            have HO := Lib.hid hown
            have HG := Lib.hid hg
            clear hown hg
            obtain ⟨z, hz⟩ : ∃ z, z = zC c first i := ⟨_, rfl⟩
            have hzi : z ≤ i := by rw [hz]; exact zC_le _ _ _
            rw [← hz]
            by_cases hlt : i < 256
            · obtain ⟨x, hx⟩ : ∃ x, x = xI first i := ⟨_, rfl⟩
              have hxv := xI_val first i hlt
              rw [← hx] at hxv
              have hcv5 : IntKind.u8.wrap (i : Int) = (i : Int) := IntWalk.u8_in _ (by omega)
              obtain ⟨y, hy⟩ : ∃ y, y = evL c x := ⟨_, rfl⟩
              have hzs : zC c first (i + 1) = z + if y = 0 then 1 else 0 := by rw [zC_succ, ← hz, ← hx, ← hy]
              have hst : i < M → ptL c first M (i + 1) = ptL c first M i ++ [(x, y)] := fun h => by rw [ptL_step _ _ _ _ h, ← hx, ← hy]
              have hsy : M ≤ i → ptL c first M (i + 1) = ptL c first M i := ptL_stay c first M i
              obtain ⟨pl, hpl⟩ : ∃ pl, pl = ptL c first M i := ⟨_, rfl⟩
              rw [← hpl] at hst hsy HO
              have hev : ∀ W, w.grownBy W none → Calls Try.prog 29 #[.slice a n ca, .int .u8 (x.toNat : Int)] W fun e w' => e = .returned (.int .u8 (y.toNat : Int)) ∧ ∃ q, w' = W.drewN q := fun W hg => by
                rw [hy]
                exact eval_n _ _ _ c x W (HC.out.grown hg) HCL.out (by unfold maxLen; omega)
              have HEV := Lib.hid hev
              have HZS := Lib.hid hzs
              have HST := Lib.hid hst
              have HSY := Lib.hid hsy
              clear hx hy hz hzs hst hsy hpl hev
              have hu8 := u8_zero y
              go_wp2_with fail
              refine (HEV.out _ HG.out).mono ?_
              rintro e w' ⟨rfl, qq, rfl⟩
              obtain ⟨W2, hW2⟩ : ∃ W2, W2 = wr.drewN qq := ⟨_, rfl⟩
              rw [← hW2]
              have hg2 : wr.grownBy W2 none := hW2 ▸ grownBy_drewN wr qq none
              have HG2 := Lib.hid (grownBy_trans HG.out hg2)
              have HO2 := Lib.hid (Own.ch HO.out (Ch.ofNone hg2 (fun _ => False)) (fun _ _ _ h => h))
              clear hW2 hg2
              by_cases hy0 : y = 0
              · have hzz : ((y.toNat : Int) == 0) = true := by rw [hu8]; simpa using hy0
                have hzw : IntKind.i64.wrap ((z : Int) + 1) = (z : Int) + 1 := IntWalk.i64_in _ (by omega)
                have hz1 : zC c first (i + 1) = z + 1 := by rw [HZS.out, if_pos hy0]
                have HZ1 := Lib.hid hz1
                clear hu8 hy0 hz1
                by_cases hiM : i < M
                · have hdM : decide ((i : Int) < (M : Int)) = true := by simp; omega
                  go_wp2_with (at_builtin; refine wpList_app elP rfl (.tmp 57) (.tmp 61) rfl rfl (Own.ch HO2.out (Ch.ofNone (World.grownBy_alloc W2 (.cells #[.int .u8 (x.toNat : Int), .int .u8 (y.toNat : Int)] 54) none) (fun _ => False)) (fun _ _ _ h => h)) ⟨W2.heap.size, 0, none⟩ 1 1 [.int .u8 (x.toNat : Int), .int .u8 (y.toNat : Int)] rfl rfl (lit_news W2 _ 54) (by intro u hu; simp at hu; rcases hu with rfl | rfl <;> rfl) (by unfold maxLen; omega) (by omega) (by have := HG2.out.size; rw [World.size_alloc]; omega) (by omega) ?_; intro g cap w1 hown1 hgr; have HO3 := Lib.hid hown1; have HG3 := Lib.hid (hgr.grew.grown (Own.ch HO2.out (Ch.ofNone (World.grownBy_alloc W2 (.cells #[.int .u8 (x.toNat : Int), .int .u8 (y.toNat : Int)] 54) none) (fun _ => False)) (fun _ _ _ h => h)) (grownBy_trans HG2.out (World.grownBy_alloc _ _ none)) (Nat.le_refl _)); clear hown1 hgr)
                  go_roundw
                  case rel =>
                    refine ⟨i + 1, _, _, _, by omega, by omega, by go_num, by rw [HZ1.out]; go_num, rfl, ?_, HG3.out⟩
                    rw [HST.out hiM, pcells_append]
                    exact HO3.out
                  case measure => simp [intOf]; omega
                · have hdM : decide ((i : Int) < (M : Int)) = false := by simp; omega
                  go_wp2_with fail
                  go_roundw
                  case rel =>
                    refine ⟨i + 1, _, _, _, by omega, by omega, by go_num, by rw [HZ1.out]; go_num, rfl, ?_, HG2.out⟩
                    rw [HSY.out (by omega)]
                    exact HO2.out
                  case measure => simp [intOf]; omega
              · have hzz : ((y.toNat : Int) == 0) = false := by rw [hu8]; simpa using hy0
                have hz1 : zC c first (i + 1) = z := by rw [HZS.out, if_neg hy0]; omega
                have HZ1 := Lib.hid hz1
                clear hu8 hy0 hz1
                by_cases hiM : i < M
                · have hdM : decide ((i : Int) < (M : Int)) = true := by simp; omega
                  go_wp2_with (at_builtin; refine wpList_app elP rfl (.tmp 57) (.tmp 61) rfl rfl (Own.ch HO2.out (Ch.ofNone (World.grownBy_alloc W2 (.cells #[.int .u8 (x.toNat : Int), .int .u8 (y.toNat : Int)] 54) none) (fun _ => False)) (fun _ _ _ h => h)) ⟨W2.heap.size, 0, none⟩ 1 1 [.int .u8 (x.toNat : Int), .int .u8 (y.toNat : Int)] rfl rfl (lit_news W2 _ 54) (by intro u hu; simp at hu; rcases hu with rfl | rfl <;> rfl) (by unfold maxLen; omega) (by omega) (by have := HG2.out.size; rw [World.size_alloc]; omega) (by omega) ?_; intro g cap w1 hown1 hgr; have HO3 := Lib.hid hown1; have HG3 := Lib.hid (hgr.grew.grown (Own.ch HO2.out (Ch.ofNone (World.grownBy_alloc W2 (.cells #[.int .u8 (x.toNat : Int), .int .u8 (y.toNat : Int)] 54) none) (fun _ => False)) (fun _ _ _ h => h)) (grownBy_trans HG2.out (World.grownBy_alloc _ _ none)) (Nat.le_refl _)); clear hown1 hgr)
                  go_roundw
                  case rel =>
                    refine ⟨i + 1, _, _, _, by omega, by omega, by go_num, by rw [HZ1.out], rfl, ?_, HG3.out⟩
                    rw [HST.out hiM, pcells_append]
                    exact HO3.out
                  case measure => simp [intOf]; omega
                · have hdM : decide ((i : Int) < (M : Int)) = false := by simp; omega
                  go_wp2_with fail
                  go_roundw
                  case rel =>
                    refine ⟨i + 1, _, _, _, by omega, by omega, by go_num, by rw [HZ1.out], rfl, ?_, HG2.out⟩
                    rw [HSY.out (by omega)]
                    exact HO2.out
                  case measure => simp [intOf]; omega
            · obtain rfl : i = 256 := by omega
              have hfew := zC_few c first
              rw [← hz, trimL_len, HCL.out, ← HQ.out] at hfew
              have hal := again_val c first M (by omega) (by rw [trimL_len, HCL.out, ← HQ.out]; have := HM.out; omega)
              have hpl := ptL_len c first M 256
              have hnpl : np = (ptL c first M 256).length := by have h1 := HO.out.1; rw [pcells_len] at h1; omega
              obtain ⟨pl, hple⟩ : ∃ pl, pl = ptL c first M 256 := ⟨_, rfl⟩
              rw [← hple] at hal HO hnpl
              have hth := through_n ap cp np pl wr (Own.plies HO.out) hnpl.symm (by omega)
              rw [hal.1, hal.2] at hth
              obtain ⟨P, hP⟩ : ∃ P, P = trimL c := ⟨_, rfl⟩
              have hPl : P.length = 0 := by rw [hP, trimL_len, HCL.out, ← HQ.out]
              have hPt : P = c.take 0 := by rw [hP]; unfold trimL; rw [HCL.out, ← HQ.out]
              rw [← hP] at hth
              have HTH := Lib.hid hth
              have HPL := Lib.hid hPl
              have HPT := Lib.hid hPt
              clear hz hfew hal hpl hnpl hple hth hP hPl hPt
              go_wp2_with fail
              refine HTH.out.mono ?_
              rintro e V0 ⟨aP, nP, cP, rfl, oP, g⟩
              obtain rfl : 0 = nP := by have := oP.len; have := HPL.out; omega
              have OP := Lib.hid oP
              have HG3 := Lib.hid (grownBy_trans HG.out g)
              clear oP g
              have hsl : BLies V0 a P := by rw [HPT.out]; exact (HC.out.grown HG3.out).take _
              have HSL := Lib.hid hsl
              clear hsl
              go_wp2_with fail
              refine (same_yes _ _ _ _ _ _ P _ (BOwn.lies OP.out) HSL.out HPL.out HPL.out (by unfold maxLen; omega)).mono ?_
              rintro e V1 ⟨rfl, q1, hq1⟩
              have HG4 := Lib.hid (grownBy_trans HG3.out (by rw [hq1]; exact grownBy_drewN _ _ _ : V0.grownBy V1 none))
              clear hq1
              go_wp2_with fail
              refine (awake_n _).mono ?_
              rintro e V2 ⟨rfl, g⟩
              have HG5 := Lib.hid (grownBy_trans HG4.out g)
              clear g
              go_wp2_with fail
              go_ret
              exact ⟨rfl, HG5.out⟩
        · obtain ⟨j, hkj⟩ : ∃ j, k = j + 1 := ⟨k - 1, by omega⟩
          obtain ⟨b, off, hbb, y, hcy, hyz⟩ := HSTEP.out j hkj
          have e1 : IntKind.i64.wrap ((k : Int) - 1) = (j : Int) := by rw [show (k : Int) - 1 = (j : Int) by omega]; exact IntWalk.i64_in _ (by omega)
          have hgt : decide ((0 : Int) < (k : Int)) = true := by simp; omega
          have hjn : j < n := by omega
          have HKJ := Lib.hid hkj
          clear hkj
          subst hbb
          go_wp2_with fail
          clear hcy hyz e1 hjn
          obtain ⟨M, hM⟩ : ∃ M, M = n + r := ⟨_, rfl⟩
          have hM1 : IntKind.i64.wrap ((n : Int) + (r : Int)) = (M : Int) := by rw [show (n : Int) + (r : Int) = (M : Int) by omega]; exact IntWalk.i64_in _ (by omega)
          have hM2 : (n : Int) + (r : Int) = (M : Int) := by omega
          have hMb : M ≤ 130 := by omega
          have HM := Lib.hid hM
          clear hM
          go_loopw [8, 9, 10] (fun vp vz vi wr => ∃ (i : Nat) (ap : Option Addr) (np cp : Nat), i ≤ 256 ∧ np ≤ i ∧ vi = .int .i64 i ∧ vz = .int .i64 (zC c first i : Nat) ∧ vp = .slice ap np cp ∧ Own wr w.heap.size 54 2 ap np cp (pcells (ptL c first M i)) ∧ w.grownBy wr none) (fun _ _ vi _ => 256 - (intOf vi).toNat)
          case atStart => exact ⟨0, none, 0, 0, by omega, by omega, rfl, rfl, rfl, Own.nil _ _ _ _ _, World.grownBy.refl _ _⟩
          case round =>
            obtain ⟨i, ap, np, cp, hi, hnp, rfl, rfl, rfl, hown, hg⟩ := hrel
            have HO := Lib.hid hown
            have HG := Lib.hid hg
            clear hown hg
            obtain ⟨z, hz⟩ : ∃ z, z = zC c first i := ⟨_, rfl⟩
            have hzi : z ≤ i := by rw [hz]; exact zC_le _ _ _
            rw [← hz]
            by_cases hlt : i < 256
            · obtain ⟨x, hx⟩ : ∃ x, x = xI first i := ⟨_, rfl⟩
              have hxv := xI_val first i hlt
              rw [← hx] at hxv
              have hcv5 : IntKind.u8.wrap (i : Int) = (i : Int) := IntWalk.u8_in _ (by omega)
              obtain ⟨y, hy⟩ : ∃ y, y = evL c x := ⟨_, rfl⟩
              have hzs : zC c first (i + 1) = z + if y = 0 then 1 else 0 := by rw [zC_succ, ← hz, ← hx, ← hy]
              have hst : i < M → ptL c first M (i + 1) = ptL c first M i ++ [(x, y)] := fun h => by rw [ptL_step _ _ _ _ h, ← hx, ← hy]
              have hsy : M ≤ i → ptL c first M (i + 1) = ptL c first M i := ptL_stay c first M i
              obtain ⟨pl, hpl⟩ : ∃ pl, pl = ptL c first M i := ⟨_, rfl⟩
              rw [← hpl] at hst hsy HO
              have hev : ∀ W, w.grownBy W none → Calls Try.prog 29 #[.slice (some ⟨b, off, none⟩) n ca, .int .u8 (x.toNat : Int)] W fun e w' => e = .returned (.int .u8 (y.toNat : Int)) ∧ ∃ q, w' = W.drewN q := fun W hg => by
                rw [hy]
                exact eval_n _ _ _ c x W (HC.out.grown hg) HCL.out (by unfold maxLen; omega)
              have HEV := Lib.hid hev
              have HZS := Lib.hid hzs
              have HST := Lib.hid hst
              have HSY := Lib.hid hsy
              clear hx hy hz hzs hst hsy hpl hev
              have hu8 := u8_zero y
              go_wp2_with fail
              refine (HEV.out _ HG.out).mono ?_
              rintro e w' ⟨rfl, qq, rfl⟩
              obtain ⟨W2, hW2⟩ : ∃ W2, W2 = wr.drewN qq := ⟨_, rfl⟩
              rw [← hW2]
              have hg2 : wr.grownBy W2 none := hW2 ▸ grownBy_drewN wr qq none
              have HG2 := Lib.hid (grownBy_trans HG.out hg2)
              have HO2 := Lib.hid (Own.ch HO.out (Ch.ofNone hg2 (fun _ => False)) (fun _ _ _ h => h))
              clear hW2 hg2
              by_cases hy0 : y = 0
              · have hzz : ((y.toNat : Int) == 0) = true := by rw [hu8]; simpa using hy0
                have hzw : IntKind.i64.wrap ((z : Int) + 1) = (z : Int) + 1 := IntWalk.i64_in _ (by omega)
                have hz1 : zC c first (i + 1) = z + 1 := by rw [HZS.out, if_pos hy0]
                have HZ1 := Lib.hid hz1
                clear hu8 hy0 hz1
                by_cases hiM : i < M
                · have hdM : decide ((i : Int) < (M : Int)) = true := by simp; omega
                  go_wp2_with (at_builtin; refine wpList_app elP rfl (.tmp 57) (.tmp 61) rfl rfl (Own.ch HO2.out (Ch.ofNone (World.grownBy_alloc W2 (.cells #[.int .u8 (x.toNat : Int), .int .u8 (y.toNat : Int)] 54) none) (fun _ => False)) (fun _ _ _ h => h)) ⟨W2.heap.size, 0, none⟩ 1 1 [.int .u8 (x.toNat : Int), .int .u8 (y.toNat : Int)] rfl rfl (lit_news W2 _ 54) (by intro u hu; simp at hu; rcases hu with rfl | rfl <;> rfl) (by unfold maxLen; omega) (by omega) (by have := HG2.out.size; rw [World.size_alloc]; omega) (by omega) ?_; intro g cap w1 hown1 hgr; have HO3 := Lib.hid hown1; have HG3 := Lib.hid (hgr.grew.grown (Own.ch HO2.out (Ch.ofNone (World.grownBy_alloc W2 (.cells #[.int .u8 (x.toNat : Int), .int .u8 (y.toNat : Int)] 54) none) (fun _ => False)) (fun _ _ _ h => h)) (grownBy_trans HG2.out (World.grownBy_alloc _ _ none)) (Nat.le_refl _)); clear hown1 hgr)
                  go_roundw
                  case rel =>
                    refine ⟨i + 1, _, _, _, by omega, by omega, by go_num, by rw [HZ1.out]; go_num, rfl, ?_, HG3.out⟩
                    rw [HST.out hiM, pcells_append]
                    exact HO3.out
                  case measure => simp [intOf]; omega
                · have hdM : decide ((i : Int) < (M : Int)) = false := by simp; omega
                  go_wp2_with fail
                  go_roundw
                  case rel =>
                    refine ⟨i + 1, _, _, _, by omega, by omega, by go_num, by rw [HZ1.out]; go_num, rfl, ?_, HG2.out⟩
                    rw [HSY.out (by omega)]
                    exact HO2.out
                  case measure => simp [intOf]; omega
              · have hzz : ((y.toNat : Int) == 0) = false := by rw [hu8]; simpa using hy0
                have hz1 : zC c first (i + 1) = z := by rw [HZS.out, if_neg hy0]; omega
                have HZ1 := Lib.hid hz1
                clear hu8 hy0 hz1
                by_cases hiM : i < M
                · have hdM : decide ((i : Int) < (M : Int)) = true := by simp; omega
                  go_wp2_with (at_builtin; refine wpList_app elP rfl (.tmp 57) (.tmp 61) rfl rfl (Own.ch HO2.out (Ch.ofNone (World.grownBy_alloc W2 (.cells #[.int .u8 (x.toNat : Int), .int .u8 (y.toNat : Int)] 54) none) (fun _ => False)) (fun _ _ _ h => h)) ⟨W2.heap.size, 0, none⟩ 1 1 [.int .u8 (x.toNat : Int), .int .u8 (y.toNat : Int)] rfl rfl (lit_news W2 _ 54) (by intro u hu; simp at hu; rcases hu with rfl | rfl <;> rfl) (by unfold maxLen; omega) (by omega) (by have := HG2.out.size; rw [World.size_alloc]; omega) (by omega) ?_; intro g cap w1 hown1 hgr; have HO3 := Lib.hid hown1; have HG3 := Lib.hid (hgr.grew.grown (Own.ch HO2.out (Ch.ofNone (World.grownBy_alloc W2 (.cells #[.int .u8 (x.toNat : Int), .int .u8 (y.toNat : Int)] 54) none) (fun _ => False)) (fun _ _ _ h => h)) (grownBy_trans HG2.out (World.grownBy_alloc _ _ none)) (Nat.le_refl _)); clear hown1 hgr)
                  go_roundw
                  case rel =>
                    refine ⟨i + 1, _, _, _, by omega, by omega, by go_num, by rw [HZ1.out], rfl, ?_, HG3.out⟩
                    rw [HST.out hiM, pcells_append]
                    exact HO3.out
                  case measure => simp [intOf]; omega
                · have hdM : decide ((i : Int) < (M : Int)) = false := by simp; omega
                  go_wp2_with fail
                  go_roundw
                  case rel =>
                    refine ⟨i + 1, _, _, _, by omega, by omega, by go_num, by rw [HZ1.out], rfl, ?_, HG2.out⟩
                    rw [HSY.out (by omega)]
                    exact HO2.out
                  case measure => simp [intOf]; omega
            · obtain rfl : i = 256 := by omega
              have hfew := zC_few c first
              rw [← hz, trimL_len, HCL.out, ← HQ.out] at hfew
              have hal := again_val c first M (by omega) (by rw [trimL_len, HCL.out, ← HQ.out]; have := HM.out; omega)
              have hpl := ptL_len c first M 256
              have hnpl : np = (ptL c first M 256).length := by have h1 := HO.out.1; rw [pcells_len] at h1; omega
              obtain ⟨pl, hple⟩ : ∃ pl, pl = ptL c first M 256 := ⟨_, rfl⟩
              rw [← hple] at hal HO hnpl
              have hth := through_n ap cp np pl wr (Own.plies HO.out) hnpl.symm (by omega)
              rw [hal.1, hal.2] at hth
              obtain ⟨P, hP⟩ : ∃ P, P = trimL c := ⟨_, rfl⟩
              have hPl : P.length = k := by rw [hP, trimL_len, HCL.out, ← HQ.out]
              have hPt : P = c.take k := by rw [hP]; unfold trimL; rw [HCL.out, ← HQ.out]
              rw [← hP] at hth
              have HTH := Lib.hid hth
              have HPL := Lib.hid hPl
              have HPT := Lib.hid hPt
              have hge : decide (k ≤ z) = false := by simp; have := hfew (by omega); omega
              clear hz hfew hal hpl hnpl hple hth hP hPl hPt
              go_wp2_with fail
              refine HTH.out.mono ?_
              rintro e V0 ⟨aP, nP, cP, rfl, oP, g⟩
              obtain rfl : k = nP := by have := oP.len; have := HPL.out; omega
              have OP := Lib.hid oP
              have HG3 := Lib.hid (grownBy_trans HG.out g)
              clear oP g
              have hsl : BLies V0 (some ⟨b, off, none⟩) P := by rw [HPT.out]; exact (HC.out.grown HG3.out).take _
              have HSL := Lib.hid hsl
              clear hsl
              go_wp2_with fail
              refine (same_yes _ _ _ _ _ _ P _ (BOwn.lies OP.out) HSL.out HPL.out HPL.out (by unfold maxLen; omega)).mono ?_
              rintro e V1 ⟨rfl, q1, hq1⟩
              have HG4 := Lib.hid (grownBy_trans HG3.out (by rw [hq1]; exact grownBy_drewN _ _ _ : V0.grownBy V1 none))
              clear hq1
              go_wp2_with fail
              refine (awake_n _).mono ?_
              rintro e V2 ⟨rfl, g⟩
              have HG5 := Lib.hid (grownBy_trans HG4.out g)
              clear g
              go_wp2_with fail
              go_ret
              exact ⟨rfl, HG5.out⟩

end Go.Proofs.Ytfikeilpgnahkaa
