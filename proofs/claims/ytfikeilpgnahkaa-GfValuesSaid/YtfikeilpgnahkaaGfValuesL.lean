/- The law GfValues. -/
import Derived.Test.YtfikeilpgnahkaaGfPoly
import Derived.Test.YtfikeilpgnahkaaGfLawsL
namespace Go.Proofs.Ytfikeilpgnahkaa
open Go.RowKit Go.Shelf

theorem trimL_le (l : List UInt8) : (trimL l).length ≤ l.length := by rw [trimL_len]; exact trimN_le _ _
theorem val_prod (a b : List UInt8) (x : UInt8) (h : timesE a b = 0) : evL (timesV a b) x = gm (evL a x) (evL b x) := by
  unfold timesE at h
  unfold timesV
  split at h
  · next hh => rw [if_pos hh, evL_prodL, evL_trim, evL_trim]
  · exact absurd h (by omega)
theorem prodL_top (a b : List UInt8) : 0 < (prodL a b).length → (prodL a b).getD ((prodL a b).length - 1) 0 ≠ 0 := by
  unfold prodL
  split
  · intro h; exact absurd h (by simp)
  · intro h; exact trimL_top _ h
theorem timesV_top (a b : List UInt8) : 0 < (timesV a b).length → (timesV a b).getD ((timesV a b).length - 1) 0 ≠ 0 := by
  unfold timesV
  split
  · exact prodL_top _ _
  · intro h; exact absurd h (by simp)
theorem times_long (a b : List UInt8) (h : timesE a b ≠ 0) : timesE a b = 61 ∧ timesV a b = [] ∧ 256 < a.length + b.length := by
  unfold timesE at h ⊢
  unfold timesV
  split at h
  · exact absurd rfl h
  · next hh =>
    rw [if_neg hh, if_neg hh]
    refine ⟨rfl, rfl, ?_⟩
    have h1 := trimN_le a a.length
    have h2 := trimN_le b b.length
    omega
theorem ov_60 (a b : List UInt8) (h : timesE a b = 0) (h0 : ovE a b ≠ 0) : ovE a b = 60 ∧ timesV a b = [] := by
  unfold timesE at h
  split at h
  · next hh =>
    have h1 : (trimL a).length ≤ 256 ∧ (trimL b).length ≤ 256 := by rw [trimL_len, trimL_len]; exact hh
    unfold ovE at h0 ⊢
    rw [if_pos h1] at h0 ⊢
    split at h0
    · next hq =>
      rw [if_pos hq]
      refine ⟨rfl, ?_⟩
      unfold timesV
      rw [if_pos hh]
      unfold prodL
      rw [if_pos (.inr hq)]
    · exact absurd rfl h0
  · exact absurd h (by omega)
theorem ov_0 (a b : List UInt8) (h : ovE a b = 0) (x : UInt8) : (ovR a b).length < trimN b b.length ∧ (0 < (ovQ a b).length → (ovQ a b).getD ((ovQ a b).length - 1) 0 ≠ 0) ∧ (0 < (ovR a b).length → (ovR a b).getD ((ovR a b).length - 1) 0 ≠ 0) ∧ gm (evL (ovQ a b) x) (evL b x) ^^^ evL (ovR a b) x = evL a x := by
  have h' := h
  unfold ovE at h'
  have hb : 0 < (trimL b).length := by
    split at h'
    · split at h'
      · exact absurd h' (by omega)
      · omega
    · exact absurd h' (by omega)
  have hbt := trimL_top b hb
  rw [← trimL_len]
  unfold ovQ ovR
  rw [if_pos h]
  by_cases hpq : (trimL b).length ≤ (trimL a).length
  · rw [if_pos hpq, if_pos ⟨h, hpq⟩]
    have hK : ovK (trimL a) (trimL b) + (trimL b).length = (trimL a).length + 1 := by unfold ovK; omega
    refine ⟨?_, fun h => trimL_top _ h, fun h => trimL_top _ h, ?_⟩
    · have h1 := trimL_short _ _ (ov_hi _ (trimL a) (trimL b) hb hK hbt _ (Nat.le_refl _))
      have : 0 < ovK (trimL a) (trimL b) := by unfold ovK; omega
      omega
    · rw [evL_trim, evL_trim, ← evL_trim b, ← ov_ev _ (trimL a) (trimL b) hb hK x _ (Nat.le_refl _), evL_trim]
  · rw [if_neg hpq, if_neg (fun h => hpq h.2)]
    refine ⟨by omega, fun h => absurd h (by simp), fun h => trimL_top _ h, ?_⟩
    rw [evL_nil, gm_zero_left, xor0', evL_trim]

set_option maxRecDepth 100000 in
set_option maxHeartbeats 1000000 in
theorem whole_n (a : Option Addr) (c n : Nat) (l : List UInt8) (w : World) (ha : BLies w a l) (hl : l.length = n) (hn : n ≤ maxLen) (ht : 0 < l.length → l.getD (l.length - 1) 0 ≠ 0) :
    Calls Try.prog 50 #[.slice a n c] w fun e w' => e = .returned (.bool true) ∧ w = w' := by
  unfold maxLen at hn
  rw [hl] at ht
  rcases Nat.eq_zero_or_pos n with rfl | hpos
  · clear ha ht hl
    go_enter Try.func50, Try.ntmps50
    go_wp2_with fail
    go_ret
    exact ⟨rfl, rfl⟩
  · obtain ⟨j, rfl⟩ : ∃ j, n = j + 1 := ⟨n - 1, by omega⟩
    have hjl : j < l.length := by omega
    obtain ⟨b, off, rfl, hc2⟩ := ha j hjl
    have e1 : IntKind.i64.wrap (((j + 1 : Nat) : Int) - 1) = (j : Int) := by rw [show ((j + 1 : Nat) : Int) - 1 = (j : Int) by omega]; exact IntWalk.i64_in _ (by omega)
    have hz := ht hpos
    rw [show j + 1 - 1 = j by omega] at hz
    obtain ⟨y, hy⟩ : ∃ y, y = l[j] := ⟨_, rfl⟩
    have hd : l.getD j 0 = y := by rw [hy]; simp [hjl]
    rw [hd] at hz
    rw [← hy] at hc2
    have hz2 : ((y.toNat : Int) != 0) = true := by
      rw [bne_iff_ne]
      intro h
      exact hz (UInt8.toNat.inj (by simpa using h))
    have hne : (((j + 1 : Nat) : Int) == 0) = false := by simp; omega
    clear ha hl ht hy hd hz
    go_enter Try.func50, Try.ntmps50
    go_wp2_with fail
    go_ret
    exact ⟨rfl, rfl⟩

set_option maxRecDepth 100000 in
set_option maxHeartbeats 2000000 in
theorem values_walk (a b : Option Addr) (ca cb n m : Nat) (la lb : List UInt8) (x : UInt8) (v : World) (ha : BLies v a la) (hb : BLies v b lb) (hla : la.length = n) (hlb : lb.length = m) (hn : n ≤ 140737488351232) (hm : m ≤ 140737488351232) (hca : n ≤ ca) (hcb : m ≤ cb) :
    Calls Try.prog 11 #[.slice a n ca, .slice b m cb, .int .u8 (x.toNat : Int)] v fun e w' => e = .returned (.bool true) ∧ v.grownBy w' none := by
  have ht := timesT_n a b ca cb n m la lb v ha hb hla hlb (by omega) (by omega) hca hcb
  have ho := fun (W : World) (ha : BLies W a la) (hb : BLies W b lb) => over_nn a b ca cb n m la lb W ha hb hla hlb (by omega) (by omega) hca hcb
  have hlong := times_long la lb
  have hvp := val_prod la lb x
  have hvt := timesV_top la lb
  have h60 := ov_60 la lb
  have h0 := fun h => ov_0 la lb h x
  rw [hlb] at h0
  rw [hla, hlb] at hlong
  obtain ⟨E, hE⟩ : ∃ E, E = timesE la lb := ⟨_, rfl⟩
  obtain ⟨P, hP⟩ : ∃ P, P = timesV la lb := ⟨_, rfl⟩
  obtain ⟨G, hG⟩ : ∃ G, G = ovE la lb := ⟨_, rfl⟩
  obtain ⟨Q, hQ⟩ : ∃ Q, Q = ovQ la lb := ⟨_, rfl⟩
  obtain ⟨R, hR⟩ : ∃ R, R = ovR la lb := ⟨_, rfl⟩
  rw [← hE, ← hP] at ht
  rw [← hG, ← hQ, ← hR] at ho
  rw [← hE, ← hP] at hlong
  rw [← hE, ← hP] at hvp
  rw [← hP] at hvt
  rw [← hE, ← hG, ← hP] at h60
  rw [← hG, ← hQ, ← hR] at h0
  have ml : ∀ k, k ≤ 140737488351232 → k ≤ maxLen := fun k h => by unfold maxLen; omega
  have HT := Lib.hid ht
  have HO := Lib.hid ho
  have HLONG := Lib.hid hlong
  have HVP := Lib.hid hvp
  have HVT := Lib.hid hvt
  have H60 := Lib.hid h60
  have H0 := Lib.hid h0
  have HA := Lib.hid ha
  have HB := Lib.hid hb
  have HLA := Lib.hid hla
  have HLB := Lib.hid hlb
  have HG := Lib.hid (World.grownBy.refl v none)
  have NM := Lib.hid (ml n hn)
  have MM := Lib.hid (ml m hm)
  clear ht ho hlong hvp hvt h60 h0 ha hb hla hlb hE hP hG hQ hR ml
  go_enter Try.func11, Try.ntmps11
  go_wp2_with fail
  refine HT.out.mono ?_
  rintro e v0 ⟨aP, nP, cP, rfl, oP, g⟩
  obtain rfl := oP.len
  have OP := Lib.hid oP
  have PM : Hid (P.length ≤ maxLen) := Lib.hid (Nat.le_trans oP.cap.1 oP.cap.2)
  clear oP
  replace HG := Lib.hid (grownBy_trans HG.out g)
  clear g
  by_cases hE0 : E = 0
  · subst hE0
    obtain ⟨y, hy⟩ : ∃ y, y = evL P x := ⟨_, rfl⟩
    obtain ⟨ya, hya⟩ : ∃ y, y = evL la x := ⟨_, rfl⟩
    obtain ⟨yb, hyb⟩ : ∃ y, y = evL lb x := ⟨_, rfl⟩
    have hyy := HVP.out (by first | trivial | rfl)
    rw [← hy, ← hya, ← hyb] at hyy
    have hbe : (((y.toNat : Int)) != (y.toNat : Int)) = false := by simp
    have HY := Lib.hid hy
    have HYA := Lib.hid hya
    have HYB := Lib.hid hyb
    have HYY := Lib.hid hyy
    clear hy hya hyb hyy
    go_wp2_with fail
    refine (eval_n _ _ _ P x _ (BOwn.lies OP.out) rfl PM.out).mono ?_
    rintro e v1 ⟨rfl, qq, hqq⟩
    have g : v0.grownBy v1 none := by rw [hqq]; exact grownBy_drewN _ _ _
    clear hqq qq
    replace HG := Lib.hid (grownBy_trans HG.out g)
    replace OP := Lib.hid (BOwn.grown OP.out g)
    clear g
    rw [← HY.out]
    go_wp2_with fail
    refine (eval_n _ _ _ la x _ (HA.out.grown HG.out) HLA.out NM.out).mono ?_
    rintro e v2 ⟨rfl, qq, hqq⟩
    have g : v1.grownBy v2 none := by rw [hqq]; exact grownBy_drewN _ _ _
    clear hqq qq
    replace HG := Lib.hid (grownBy_trans HG.out g)
    replace OP := Lib.hid (BOwn.grown OP.out g)
    clear g
    rw [← HYA.out]
    go_wp2_with fail
    refine (eval_n _ _ _ lb x _ (HB.out.grown HG.out) HLB.out MM.out).mono ?_
    rintro e v3 ⟨rfl, qq, hqq⟩
    have g : v2.grownBy v3 none := by rw [hqq]; exact grownBy_drewN _ _ _
    clear hqq qq
    replace HG := Lib.hid (grownBy_trans HG.out g)
    replace OP := Lib.hid (BOwn.grown OP.out g)
    clear g
    rw [← HYB.out]
    go_wp2_with fail
    refine (mulI (r := (y.toNat : Int)) (a := ya) (b := yb) _ rfl rfl (by rw [HYY.out])).mono ?_
    rintro e w' ⟨rfl, rfl⟩
    go_wp2_with fail
    refine (whole_n _ _ _ P _ (BOwn.lies OP.out) rfl PM.out HVT.out).mono ?_
    rintro e w' ⟨rfl, rfl⟩
    go_wp2_with fail
    refine (awake_n _).mono ?_
    rintro e v4 ⟨rfl, g⟩
    replace HG := Lib.hid (grownBy_trans HG.out g)
    replace OP := Lib.hid (BOwn.grown OP.out g)
    clear g
    go_wp2_with fail
    refine (HO.out _ (HA.out.grown HG.out) (HB.out.grown HG.out)).mono ?_
    rintro e v5 ⟨aQ, nQ, cQ, aR, nR, cR, rfl, oQ, oR, _, g⟩
    obtain rfl := oQ.len
    obtain rfl := oR.len
    have OQ := Lib.hid oQ
    have OR := Lib.hid oR
    have QM : Hid (Q.length ≤ maxLen) := Lib.hid (Nat.le_trans oQ.cap.1 oQ.cap.2)
    have RM : Hid (R.length ≤ maxLen) := Lib.hid (Nat.le_trans oR.cap.1 oR.cap.2)
    clear oQ oR
    replace HG := Lib.hid (grownBy_trans HG.out g)
    replace OP := Lib.hid (BOwn.grown OP.out g)
    clear g
    by_cases hG0 : G = 0
    · subst hG0
      obtain ⟨hr, hqt, hrt, heq⟩ := H0.out (by first | trivial | rfl)
      obtain ⟨yq, hyq⟩ : ∃ y, y = evL Q x := ⟨_, rfl⟩
      obtain ⟨yr, hyr⟩ : ∃ y, y = evL R x := ⟨_, rfl⟩
      rw [← HYA.out, ← HYB.out, ← hyq, ← hyr] at heq
      have HYQ := Lib.hid hyq
      have HYR := Lib.hid hyr
      have HEQ := Lib.hid heq
      have HQT := Lib.hid hqt
      have HRT := Lib.hid hrt
      obtain ⟨qn, hqn⟩ : ∃ qn, qn = trimN lb m := ⟨_, rfl⟩
      rw [← hqn] at hr
      have hqm : qn ≤ m := by rw [hqn]; exact trimN_le _ _
      have hge : decide ((qn : Int) ≤ (R.length : Int)) = false := by simp; omega
      have HQN := Lib.hid hqn
      clear hyq hyr heq hqt hrt hqn hr
      go_wp2_with fail
      go_loop [12] (fun u => ∃ k : Nat, k ≤ m ∧ u = .int .i64 k ∧ trimN lb k = qn) (fun u => (intOf u).toNat)
      case atStart => exact ⟨m, Nat.le_refl _, rfl, HQN.out.symm⟩
      case round =>
        obtain ⟨k, hk, rfl, ht⟩ := hrel
        have HTK := Lib.hid ht
        clear ht
        rcases Nat.eq_zero_or_pos k with rfl | hpos
        · exfalso
          have h1 : qn = 0 := HTK.out.symm
          have h2 : ¬ decide ((qn : Int) ≤ (R.length : Int)) = false := by rw [h1]; simp
          exact h2 hge
        · obtain ⟨j, rfl⟩ : ∃ j, k = j + 1 := ⟨k - 1, by omega⟩
          have hjl : j < lb.length := by rw [HLB.out]; omega
          obtain ⟨bb, off, hbb, hc2⟩ := HB.out.grown HG.out j hjl
          subst hbb
          have e1 : IntKind.i64.wrap (((j + 1 : Nat) : Int) - 1) = (j : Int) := by rw [show ((j + 1 : Nat) : Int) - 1 = (j : Int) by omega]; exact IntWalk.i64_in _ (by omega)
          have hd : lb.getD j 0 = lb[j] := by simp [hjl]
          by_cases hz : lb[j] = 0
          · have hh : trimN lb j = qn := by rw [← HTK.out, trimN, hd, if_pos hz]
            rw [hz] at hc2
            have HH := Lib.hid hh
            clear hh hd hz
            go_wp2_with fail
            go_round
            case rel => exact ⟨j, by omega, by first | rfl | go_num, HH.out⟩
            case measure => simp [intOf]
          · have hh : qn = j + 1 := by rw [← HTK.out, trimN, hd, if_neg hz]
            have hz2 : ((lb[j].toNat : Int) == 0) = false := by
              simp only [beq_eq_false_iff_ne, ne_eq]
              intro h
              apply hz
              exact UInt8.toNat.inj (by simpa using h)
            obtain ⟨yy, hyy⟩ : ∃ y, y = lb[j] := ⟨_, rfl⟩
            rw [← hyy] at hc2 hz2
            subst hh
            have hge2 : decide ((j : Int) + 1 ≤ (R.length : Int)) = false := by simp at hge ⊢; omega
            clear hd hz hyy
            go_wp2_with fail
            refine (whole_n _ _ _ Q _ (BOwn.lies OQ.out) rfl QM.out HQT.out).mono ?_
            rintro e w' ⟨rfl, rfl⟩
            go_wp2_with fail
            refine (whole_n _ _ _ R _ (BOwn.lies OR.out) rfl RM.out HRT.out).mono ?_
            rintro e w' ⟨rfl, rfl⟩
            clear hc2 hz2
            go_wp2_with fail
            refine (eval_n _ _ _ la x _ (HA.out.grown HG.out) HLA.out NM.out).mono ?_
            rintro e v6 ⟨rfl, qq, hqq⟩
            have g : v5.grownBy v6 none := by rw [hqq]; exact grownBy_drewN _ _ _
            clear hqq qq
            replace HG := Lib.hid (grownBy_trans HG.out g)
            replace OP := Lib.hid (BOwn.grown OP.out g)
            replace OQ := Lib.hid (BOwn.grown OQ.out g)
            replace OR := Lib.hid (BOwn.grown OR.out g)
            clear g
            rw [← HYA.out]
            go_wp2_with fail
            refine (eval_n _ _ _ Q x _ (BOwn.lies OQ.out) rfl QM.out).mono ?_
            rintro e v7 ⟨rfl, qq, hqq⟩
            have g : v6.grownBy v7 none := by rw [hqq]; exact grownBy_drewN _ _ _
            clear hqq qq
            replace HG := Lib.hid (grownBy_trans HG.out g)
            replace OP := Lib.hid (BOwn.grown OP.out g)
            replace OQ := Lib.hid (BOwn.grown OQ.out g)
            replace OR := Lib.hid (BOwn.grown OR.out g)
            clear g
            rw [← HYQ.out]
            go_wp2_with fail
            refine (eval_n _ _ _ lb x _ (HB.out.grown HG.out) HLB.out MM.out).mono ?_
            rintro e v8 ⟨rfl, qq, hqq⟩
            have g : v7.grownBy v8 none := by rw [hqq]; exact grownBy_drewN _ _ _
            clear hqq qq
            replace HG := Lib.hid (grownBy_trans HG.out g)
            replace OP := Lib.hid (BOwn.grown OP.out g)
            replace OQ := Lib.hid (BOwn.grown OQ.out g)
            replace OR := Lib.hid (BOwn.grown OR.out g)
            clear g
            rw [← HYB.out]
            obtain ⟨ym, hym⟩ : ∃ y, y = gm yq yb := ⟨_, rfl⟩
            have HYM := Lib.hid hym
            clear hym
            go_wp2_with fail
            refine (mulI (r := (ym.toNat : Int)) (a := yq) (b := yb) _ rfl rfl (by rw [HYM.out])).mono ?_
            rintro e w' ⟨rfl, rfl⟩
            go_wp2_with fail
            refine (eval_n _ _ _ R x _ (BOwn.lies OR.out) rfl RM.out).mono ?_
            rintro e v9 ⟨rfl, qq, hqq⟩
            have g : v8.grownBy v9 none := by rw [hqq]; exact grownBy_drewN _ _ _
            clear hqq qq
            replace HG := Lib.hid (grownBy_trans HG.out g)
            replace OP := Lib.hid (BOwn.grown OP.out g)
            replace OQ := Lib.hid (BOwn.grown OQ.out g)
            replace OR := Lib.hid (BOwn.grown OR.out g)
            clear g
            rw [← HYR.out]
            go_wp2_with fail
            refine (addI (r := (ya.toNat : Int)) (a := ym) (b := yr) _ rfl rfl (by rw [HYM.out, HEQ.out])).mono ?_
            rintro e w' ⟨rfl, rfl⟩
            go_wp2_with fail
            go_ret
            exact ⟨rfl, HG.out⟩
    · obtain ⟨rfl, rfl⟩ := H60.out (by first | trivial | rfl) hG0
      clear hG0
      go_wp2_with fail
      go_ret
      exact ⟨rfl, HG.out⟩
  · obtain ⟨rfl, rfl, hsum⟩ := HLONG.out hE0
    have hw : IntKind.i64.wrap ((n : Int) + (m : Int)) = (n : Int) + (m : Int) := IntWalk.i64_in _ (by omega)
    have hd : decide ((256 : Int) < (n : Int) + (m : Int)) = true := by simp; omega
    clear hE0 hsum
    go_wp2_with fail
    refine (awake_n _).mono ?_
    rintro e vz ⟨rfl, g⟩
    replace HG := Lib.hid (grownBy_trans HG.out g)
    clear g
    go_wp2_with fail
    go_ret
    exact ⟨rfl, HG.out⟩

end Go.Proofs.Ytfikeilpgnahkaa
