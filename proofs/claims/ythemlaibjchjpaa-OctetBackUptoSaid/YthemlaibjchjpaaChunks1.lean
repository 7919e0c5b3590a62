/- The function that octet.Chunks gives: what it tells. -/
import Derived.Test.YthemlaibjchjpaaChunks
import Derived.Test.YthemlaibjchjpaaReader
namespace Go.Proofs.Ythemlaibjchjpaa
open Go.RowKit Go.Shelf
attribute [local go_sem] Oper.semAt_some

set_option maxRecDepth 100000 in
set_option maxHeartbeats 400000 in
theorem chunks1_in (m : Nat) (B b1 b2 : Nat) (z : Int) (ao : Option Addr) (n co : Nat) (l : List UInt8) (w : World) (hc : Chk w B b1 b2 z ao n co l) (hn : n ≤ 4000000000) :
    SeqOk Fence.wide m Try.prog 61 #[.pointer (some ⟨b1, 0, none⟩), .pointer (some ⟨b2, 0, none⟩)] Pce.vals (KeptS (Chk.S b1 b2 ao co)) (ChOk (chL z l))
      (fun xs => xs.map Pce.pr = chL z l) (fun pre => ∃ r, pre.map Pce.pr ++ r = chL z l) w := by
  intro lp J Jx W hW hJ hJx hY h0
  have HC : Hid (Chk W B b1 b2 z ao n co l) := Lib.hid (hc.kept ⟨hW.size, fun k hk hl => hW.block k hl⟩)
  have HY := Lib.hid hY
  have HJ := Lib.hid hJ
  have HJ0 := Lib.hid h0
  have HLN := Lib.hid (BOwn.len hc.own)
  clear hW hc hY hJ hJx h0
  have c1 := Row.cell HC.out.size 0
  have c2 := Row.cell HC.out.box 0
  simp at c1 c2
  refine callsIn_of_wp Try.func61 rfl trivial ?_ rfl
  simp only [Try.ntmps61, List.size_toArray, List.length_cons, List.length_nil, Nat.reduceAdd, Nat.reduceSub, Array.replicate_succ, Array.replicate_zero, List.push_toArray, List.append_toArray, List.nil_append, List.cons_append]
  by_cases hz : z < 1
  · have hch : chL z l = [] := if_pos hz
    have hd : decide (z < 1) = true := by simpa using hz
    gi_wp2
    refine bodyPost_ret (results_none rfl _ _ _) rfl ?_
    exact ⟨⟨_, rfl⟩, .inl ⟨[], by rw [hch]; rfl, HJ0.out⟩⟩
  · obtain ⟨s, rfl⟩ : ∃ s : Nat, z = (s : Int) := ⟨z.toNat, by omega⟩
    have hs1 : 1 ≤ s := by omega
    have hd : decide ((s : Int) < 1) = false := by simp; omega
    have hch : chL (s : Int) l = chs (s - 1) 0 l := by
      unfold chL
      rw [if_neg (by omega)]
      congr 1
    obtain ⟨all, hall⟩ : ∃ all, all = chL (s : Int) l := ⟨_, rfl⟩
    obtain ⟨Z, hZ⟩ : ∃ Z, Z = s - 1 := ⟨_, rfl⟩
    rw [← hall] at HY ⊢
    rw [← hall, ← hZ] at hch
    have HCH := Lib.hid hch
    have HZ := Lib.hid hZ
    clear hch hz hZ hall
    gi_wp2
    clear c1 c2
    gi_loopw [4] (fun vp wr => ∃ (p : Nat) (pre : List Pce), p ≤ n ∧ vp = .int .i64 p ∧ J pre wr ∧ Chk wr B b1 b2 (s : Int) ao n co l ∧ Hid (pre.map Pce.pr ++ chs Z p (l.drop p) = all))
      (fun vp _ => n - (intOf vp).toNat)
    case atStart => exact ⟨0, [], Nat.zero_le _, rfl, HJ0.out, HC.out, Lib.hid (by rw [HCH.out]; simp)⟩
    case round =>
      obtain ⟨p, pre, hp, rfl, hj, hc, HP⟩ := hrel
      have HJ1 := Lib.hid hj
      replace HC := Lib.hid hc
      have c1 := Row.cell hc.size 0
      have c2 := Row.cell hc.box 0
      have hcap := hc.own.cap
      simp at c1 c2
      clear hj hc
      by_cases hlt : p < n
      · obtain ⟨g, rfl, hg1, hg2⟩ := Own.block HC.out.own (by omega)
        have hdl : (l.drop p).length = n - p := by rw [List.length_drop, HLN.out]
        have hne : l.drop p ≠ [] := fun e => by rw [e] at hdl; simp at hdl; omega
        obtain ⟨mm, hmm⟩ : ∃ mm, mm = min s (n - p) := ⟨_, rfl⟩
        have hm1 : 1 ≤ mm := by omega
        have hm2 : p + mm ≤ n := by omega
        have hp2 := HP.out
        rw [chs_cons hne, hdl, HZ.out, show s - 1 + 1 = s by omega, ← hmm, List.drop_drop] at hp2
        have ht : (l.drop p).take s = (l.drop p).take mm := by
          rw [hmm]
          rcases Nat.lt_or_ge s (n - p) with h | h
          · rw [Nat.min_eq_left (by omega)]
          · rw [Nat.min_eq_right h, List.take_of_length_le (by omega), List.take_of_length_le (by omega)]
        have hdd : l.drop (p + s) = l.drop (p + mm) := by
          rcases Nat.lt_or_ge s (n - p) with h | h
          · rw [hmm, Nat.min_eq_left (by omega)]
          · rw [List.drop_eq_nil_of_le (by rw [HLN.out]; omega), List.drop_eq_nil_of_le (by rw [HLN.out]; omega)]
        rw [ht, hdd, ← HZ.out] at hp2
        have HP2 := Lib.hid hp2
        have hbl : BLies wr (some ⟨g, 0 + p, none⟩) (l.drop p) := drop_lies (BOwn.lies HC.out.own) p
        rw [Nat.zero_add] at hbl
        have HBL := Lib.hid (hbl.take mm)
        have hbn : ((l.drop p).take mm).length = mm := by rw [List.length_take, hdl]; omega
        have HBN := Lib.hid hbn
        have HM := Lib.hid hmm
        have hcp : p < co := by omega
        have hcs : co - p ≠ 0 := by omega
        have HWP : Hid (wrap64 ((p : Int) + (mm : Int)) = ((p + mm : Nat) : Int)) := by
          unfold Hid
          rw [IntWalk.wrap64_in _ (by omega)]; omega
        obtain ⟨q, hqq⟩ : ∃ q : Nat, q = n - p := ⟨_, rfl⟩
        have HW : Hid (IntKind.i64.wrap ((n : Int) - (p : Int)) = (q : Int)) := by
          unfold Hid
          rw [IntWalk.i64_in _ (by omega)]; omega
        have hd2 : decide ((p : Int) < (n : Int)) = true := by simp; omega
        have hd3 : decide (p < n) = true := by simp; omega
        clear hp2 ht hdd hbl hbn hne hdl
        rcases Nat.lt_or_ge q s with hq | hq
        · have he : mm = q := by omega
          have hlq : (q : Int) < (s : Int) := by omega
          have hw := HW.out
          have hwp := HWP.out
          have hpm : p + mm - p = mm := Nat.add_sub_cancel_left _ _
          clear hmm hqq hq HW HWP
          subst he
          gi_wp2_with (refine ⟨trivial, fun h => (by cases h), ?_⟩; gi_at_call 60; refine (callsIn_wide.2 (clone_n _ _ mm _ wr HBL.out HBN.out (by omega))).mono ?_; rintro e w1 ⟨a1, c1', rfl, ho, hg⟩; have HO := Lib.hid ho; have HG := Lib.hid hg; have HY1 := Lib.hid (HY.out pre ⟨p, ⟨a1, mm, c1'⟩, (l.drop p).take mm⟩ wr w1 HJ1.out (HJ.out pre wr w1 none HJ1.out hg (fun r e => by cases e)) (KeptC.of hg) ⟨⟨_, HP2.out⟩, ho⟩); clear ho hg; obtain ⟨fn, tmps, assign, body, hy, hR⟩ := HY1.out; have HR := Lib.hid hR; clear hR; dsimp only [Pce.vals, Sl.val] at hy)
          clear hw
          refine ⟨fun h => (by cases h), HR.out.mono ?_⟩
          rintro e W3 (⟨rfl, hJ3, hk3⟩ | ⟨rfl, hJx3⟩)
          · have HJ3 := Lib.hid hJ3
            have hc3 := (HC.out.kept (KeptS.of HG.out)).kept hk3
            have HC3 := Lib.hid hc3
            clear hJ3 hk3 hc3
            gi_wp2
            clear hwp hpm hlq hcs hcp hcap hd hd2 hd3
            refine ⟨⟨p + mm, _, hm2, by simp, HJ3.out, HC3.out, Lib.hid (by rw [List.map_append, List.append_assoc]; exact HP2.out)⟩, ?_⟩
            simp only [intOf]
            omega
          · have HJ3 := Lib.hid hJx3
            clear hJx3
            gi_wp2
            refine bodyPost_ret (results_none rfl _ _ _) rfl ?_
            exact ⟨⟨_, rfl⟩, .inr ⟨_, ⟨_, by rw [List.map_append, List.append_assoc]; exact HP2.out⟩, HJ3.out⟩⟩
        · have he : mm = s := by omega
          have hlq : ((q : Int) < (s : Int)) = False := eq_false (by omega)
          have hlq2 : (q < s) = False := eq_false (by omega)
          have hw : (n : Int) - (p : Int) = (q : Int) := by omega
          have hwp := HWP.out
          have hpm : p + mm - p = mm := Nat.add_sub_cancel_left _ _
          clear hmm hqq hq HW HWP
          subst he
          gi_wp2_with (refine ⟨trivial, fun h => (by cases h), ?_⟩; gi_at_call 60; refine (callsIn_wide.2 (clone_n _ _ mm _ wr HBL.out HBN.out (by omega))).mono ?_; rintro e w1 ⟨a1, c1', rfl, ho, hg⟩; have HO := Lib.hid ho; have HG := Lib.hid hg; have HY1 := Lib.hid (HY.out pre ⟨p, ⟨a1, mm, c1'⟩, (l.drop p).take mm⟩ wr w1 HJ1.out (HJ.out pre wr w1 none HJ1.out hg (fun r e => by cases e)) (KeptC.of hg) ⟨⟨_, HP2.out⟩, ho⟩); clear ho hg; obtain ⟨fn, tmps, assign, body, hy, hR⟩ := HY1.out; have HR := Lib.hid hR; clear hR; dsimp only [Pce.vals, Sl.val] at hy)
          clear hw
          refine ⟨fun h => (by cases h), HR.out.mono ?_⟩
          rintro e W3 (⟨rfl, hJ3, hk3⟩ | ⟨rfl, hJx3⟩)
          · have HJ3 := Lib.hid hJ3
            have hc3 := (HC.out.kept (KeptS.of HG.out)).kept hk3
            have HC3 := Lib.hid hc3
            clear hJ3 hk3 hc3
            gi_wp2
            clear hwp hpm hlq hcs hcp hcap hd hd2 hd3
            refine ⟨⟨p + mm, _, hm2, by simp, HJ3.out, HC3.out, Lib.hid (by rw [List.map_append, List.append_assoc]; exact HP2.out)⟩, ?_⟩
            simp only [intOf]
            omega
          · have HJ3 := Lib.hid hJx3
            clear hJx3
            gi_wp2
            refine bodyPost_ret (results_none rfl _ _ _) rfl ?_
            exact ⟨⟨_, rfl⟩, .inr ⟨_, ⟨_, by rw [List.map_append, List.append_assoc]; exact HP2.out⟩, HJ3.out⟩⟩
      · obtain rfl : p = n := by omega
        have hpe := HP.out
        rw [List.drop_eq_nil_of_le (by rw [HLN.out]; exact Nat.le_refl _), chs_nil, List.append_nil] at hpe
        have HPE := Lib.hid hpe
        clear hpe
        gi_wp2
        go_end0
        exact ⟨⟨_, rfl⟩, .inl ⟨pre, HPE.out, HJ1.out⟩⟩

end Go.Proofs.Ythemlaibjchjpaa
