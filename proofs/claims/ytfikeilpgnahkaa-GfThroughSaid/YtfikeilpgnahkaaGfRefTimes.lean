/- the document's product, Times. -/
import Derived.Test.YtfikeilpgnahkaaGfThrough
namespace Go.Proofs.Ytfikeilpgnahkaa
open Go.RowKit Go.Shelf

set_option maxRecDepth 100000 in
set_option maxHeartbeats 1000000 in
theorem refProd_n (aa ab : Option Addr) (ca cb n m : Nat) (a b : List UInt8) (w : World) (ha : BLies w aa a) (hb : BLies w ab b) (hla : a.length = n) (hlb : b.length = m) (hn : n ≤ 4000000000) (hm : m ≤ 4000000000) :
    Calls Try.prog 59 #[.slice aa n ca, .slice ab m cb] w fun e w' => ∃ a' n' c', e = .returned (.slice a' n' c') ∧ BOwn w' w.heap.size a' n' c' (prodL a b) ∧ w.grownBy w' none := by
  have HA := Lib.hid ha
  have HB := Lib.hid hb
  have HLA := Lib.hid hla
  have HLB := Lib.hid hlb
  clear ha hb hla hlb
  obtain ⟨iu, hiu, hiuz, hius, hiub⟩ := info_parts (show (Try.prog.info? 5).map (fun i => (i.zero, i.size, i.bytes)) = some (some (.int .u8 0), 1, 1) by kernel_rfl)
  by_cases hz : n = 0 ∨ m = 0
  · have hp : prodL a b = [] := by unfold prodL; rw [HLA.out, HLB.out, if_pos hz]
    rw [hp]
    rcases Nat.eq_zero_or_pos n with rfl | hnp
    · go_enter Try.func59, Try.ntmps59
      go_wp2_with fail
      go_ret
      exact ⟨none, 0, 0, rfl, Own.nil _ _ _ _ _, World.grownBy.refl _ _⟩
    · obtain rfl : m = 0 := by omega
      have hn0 : ((n : Int) == 0) = false := by simp; omega
      go_enter Try.func59, Try.ntmps59
      go_wp2_with fail
      go_ret
      exact ⟨none, 0, 0, rfl, Own.nil _ _ _ _ _, World.grownBy.refl _ _⟩
  · have hn0 : ((n : Int) == 0) = false := by simp; omega
    have hm0 : ((m : Int) == 0) = false := by simp; omega
    obtain ⟨M, hM⟩ : ∃ M, n + m - 1 = M := ⟨_, rfl⟩
    have hw1 : IntKind.i64.wrap ((n : Int) + (m : Int)) = (n : Int) + (m : Int) := IntWalk.i64_in _ (by omega)
    have hw2 : IntKind.i64.wrap ((n : Int) + (m : Int) - 1) = (M : Int) := by rw [show (n : Int) + (m : Int) - 1 = (M : Int) by omega]; exact IntWalk.i64_in _ (by omega)
    obtain ⟨ga, oa, haa⟩ : ∃ g o, aa = some ⟨g, o, none⟩ := by
      obtain ⟨g, o, e, _⟩ := HA.out 0 (by rw [HLA.out]; omega)
      exact ⟨g, o, e⟩
    obtain ⟨gb, ob, hbb⟩ : ∃ g o, ab = some ⟨g, o, none⟩ := by
      obtain ⟨g, o, e, _⟩ := HB.out 0 (by rw [HLB.out]; omega)
      exact ⟨g, o, e⟩
    subst haa
    subst hbb
    have hprod : prodL a b = trimL (outF a b (List.replicate M 0) n) := by
      unfold prodL prodM
      rw [HLA.out, HLB.out, if_neg hz, hM]
    obtain ⟨z, hzz⟩ : ∃ z, z = List.replicate M (0 : UInt8) := ⟨_, rfl⟩
    have hzl : z.length = M := by rw [hzz]; simp
    have HP := Lib.hid hprod
    have HM := Lib.hid hM
    have hMb : M ≤ 8000000000 := by omega
    rw [← hzz] at HP
    clear hprod hM
    go_enter Try.func59, Try.ntmps59
    go_wp2_with (refine wpList_mkB rfl _ _ 33 rfl 5 Try.underlying33 hiu hiuz hius hiub M rfl rfl (by omega) ?_; intro W1 hs1 hg1 hr1; have HR1 := Lib.hid hr1; have HG1 := Lib.hid hg1; have HS1 := Lib.hid hs1; clear hg1 hr1 hs1)
    rw [← hzz] at HR1
    clear hzz
    go_loopw [6] (fun vi wr => ∃ i : Nat, i ≤ n ∧ vi = .int .i64 i ∧ BRow wr w.heap.size 5 (outF a b z i) ∧ w.grownBy wr none) (fun vi _ => n - (intOf vi).toNat)
    case atStart => exact ⟨0, by omega, rfl, HR1.out, HG1.out⟩
    case round =>
      obtain ⟨i, hi, rfl, hr, hg⟩ := hrel
      have HR := Lib.hid hr
      have HG := Lib.hid hg
      clear hr hg
      by_cases hlt : i < n
      · obtain ⟨x, hx⟩ : ∃ x, x = a.getD i 0 := ⟨_, rfl⟩
        obtain ⟨l0, hl0⟩ : ∃ l0, l0 = outF a b z i := ⟨_, rfl⟩
        have hstep : outF a b z (i + 1) = inF i x b l0 m := by rw [outF, ← hx, ← hl0, HLB.out]
        have hl0l : l0.length = M := by rw [hl0, outF_len]; exact hzl
        rw [← hl0] at HR
        have HST := Lib.hid hstep
        have HX := Lib.hid hx
        have HL0 := Lib.hid hl0l
        clear hx hl0 hstep hl0l
        go_wp2_with fail
        rw [show (0 : Int) = ((0 : Nat) : Int) from rfl]
        go_loopw [7] (fun vj wr2 => ∃ j : Nat, j ≤ m ∧ vj = .int .i64 j ∧ BRow wr2 w.heap.size 5 (inF i x b l0 j) ∧ w.grownBy wr2 none) (fun vj _ => m - (intOf vj).toNat)
        case atStart => exact ⟨0, by omega, rfl, HR.out, HG.out⟩
        case round =>
          obtain ⟨j, hj, rfl, hr2, hg2⟩ := hrel
          by_cases hlt2 : j < m
          · have hij : i + j < M := by have := HM.out; omega
            obtain ⟨y, hy⟩ : ∃ y, y = b.getD j 0 := ⟨_, rfl⟩
            obtain ⟨l1, hl1⟩ : ∃ l1, l1 = inF i x b l0 j := ⟨_, rfl⟩
            have hl1l : l1.length = M := by rw [hl1, inF_len]; exact HL0.out
            have hst : inF i x b l0 (j + 1) = l1.set (i + j) (l1.getD (i + j) 0 ^^^ gm x y) := by rw [inF, ← hl1, ← hy]
            rw [← hl1] at hr2
            obtain ⟨v, hv⟩ : ∃ v, v = l1.getD (i + j) 0 := ⟨_, rfl⟩
            rw [← hv] at hst
            have hcv : wr.drew.cell? ⟨w.heap.size, i + j, none⟩ = some (.int .u8 (v.toNat : Int)) := hv ▸ BRow.cell hr2 (i + j) (by omega)
            have hfv : wr.drew.frozen? ⟨w.heap.size, i + j, none⟩ = false := BRow.frozen hr2 (i + j)
            have hcx : wr.drew.cell? ⟨ga, oa + i, none⟩ = some (.int .u8 (x.toNat : Int)) := by
              obtain ⟨g, o, e, hc⟩ := HA.out.grown hg2 i (by rw [HLA.out]; exact hlt)
              injection e with e; injection e with e1 e2
              subst e1; subst e2
              rw [HX.out]
              refine Eq.trans (b := wr.cell? ⟨ga, oa + i, none⟩) rfl ?_
              rw [hc]; simp [show i < a.length by rw [HLA.out]; exact hlt]
            have hcy : wr.drew.cell? ⟨gb, ob + j, none⟩ = some (.int .u8 (y.toNat : Int)) := by
              obtain ⟨g, o, e, hc⟩ := HB.out.grown hg2 j (by rw [HLB.out]; exact hlt2)
              injection e with e; injection e with e1 e2
              subst e1; subst e2
              rw [hy]
              refine Eq.trans (b := wr.cell? ⟨gb, ob + j, none⟩) rfl ?_
              rw [hc]; simp [show j < b.length by rw [HLB.out]; exact hlt2]
            have hw : IntKind.i64.wrap ((i : Int) + (j : Int)) = (i : Int) + (j : Int) := IntWalk.i64_in _ (by omega)
            have hb1 : (0 : Int) ≤ (i : Int) + (j : Int) := by omega
            have hb2 : (i : Int) + (j : Int) < (M : Int) := by omega
            have hb3 : ((i : Int) + (j : Int)).toNat = i + j := by omega
            have hxx := xor_u8 v (gm x y)
            have HST2 := Lib.hid hst
            have HR2 : Hid (BRow wr.drew w.heap.size 5 l1) := Lib.hid hr2
            have HG2 : Hid (w.grownBy wr.drew none) := Lib.hid ⟨hg2.os, hg2.tape, hg2.output, hg2.size, hg2.block⟩
            clear hr2 hg2 hy hl1 hv hst hl1l
            go_wp2_with fail
            refine wp_region_still_tail 21 (by kernel_rfl) (by kernel_rfl) ?_
            simp only [List.take_succ_cons, List.take_zero, List.drop_succ_cons, List.drop_zero]
            change wpStill _ _ wr.drew (fun a' => wpList _ _ _ _ a' wr.drew) _ _
            generalize wr.drew = W2 at *
            repeat still_step
            still_call ((refMul_i _ _ x y _ rfl rfl).mono (fun _ _ h => ⟨h.1, h.2.symm⟩))
            repeat still_step
            refine wpStill_nil ?_
            clear hcx hcy hxx
            go_wp2_with fail
            go_roundw
            case rel =>
              refine ⟨j + 1, by omega, by go_num, ?_, grownBy_old HG2.out (grownBy_setCell _ _ _ _) (Nat.le_refl _)⟩
              rw [HST2.out, ← UInt8.toNat_xor]
              exact BRow.set HR2.out _ _
            case measure => simp [intOf]; omega
          · obtain rfl : j = m := by omega
            have HR2 := Lib.hid hr2
            have HG2 := Lib.hid hg2
            clear hr2 hg2
            go_wp2_with fail
            go_roundw
            case rel => exact ⟨i + 1, by omega, by go_num, by rw [HST.out]; exact HR2.out, HG2.out⟩
            case measure => simp [intOf]; omega
      · obtain rfl : i = n := by omega
        obtain ⟨p, hp⟩ : ∃ p, p = outF a b z i := ⟨_, rfl⟩
        have hpl : p.length = M := by rw [hp, outF_len]; exact hzl
        rw [← hp] at HR HP
        have HPL := Lib.hid hpl
        have htl := trimN_le p M
        clear hp hpl hzl
        go_wp2_with (go_at_call 58; refine (cut_n _ _ _ p _ (BRow.lies HR.out) HPL.out (by unfold maxLen; omega) (Nat.le_refl _)).mono ?_; rintro e w' ⟨rfl, rfl⟩)
        go_ret
        refine ⟨_, _, _, rfl, ?_, HG.out⟩
        rw [HP.out]
        unfold BOwn trimL
        rw [HPL.out]
        exact BRow.ownTake HR.out (Nat.le_refl _) _ _ HPL.out htl (by unfold maxLen; omega)

set_option maxRecDepth 100000 in
set_option maxHeartbeats 1000000 in
theorem refTimesT_n (aa ab : Option Addr) (ca cb n m : Nat) (a b : List UInt8) (w : World) (ha : BLies w aa a) (hb : BLies w ab b) (hla : a.length = n) (hlb : b.length = m) (hn : n ≤ 140737488355328) (hm : m ≤ 140737488355328) (hca : n ≤ ca) (hcb : m ≤ cb) :
    Calls Try.prog 45 #[.slice aa n ca, .slice ab m cb] w fun e w' => ∃ a' n' c', e = .returned (.tuple #[.slice a' n' c', .int .i64 (timesE a b : Nat)]) ∧ BOwn w' w.heap.size a' n' c' (timesV a b) ∧ w.grownBy w' none := by
  have HA := Lib.hid ha
  have HB := Lib.hid hb
  have HLA := Lib.hid hla
  have HLB := Lib.hid hlb
  have hta := trimN_le a n
  have htb := trimN_le b m
  obtain ⟨p, hp⟩ : ∃ p, p = trimN a n := ⟨_, rfl⟩
  obtain ⟨q, hq⟩ : ∃ q, q = trimN b m := ⟨_, rfl⟩
  have hpl : (trimL a).length = p := by rw [trimL_len, hla, hp]
  have hql : (trimL b).length = q := by rw [trimL_len, hlb, hq]
  have HPL := Lib.hid hpl
  have HQL := Lib.hid hql
  have hV : timesV a b = if p ≤ 256 ∧ q ≤ 256 then prodL (trimL a) (trimL b) else [] := by unfold timesV; rw [hla, hlb, hp, hq]
  have hE : timesE a b = if p ≤ 256 ∧ q ≤ 256 then 0 else 61 := by unfold timesE; rw [hla, hlb, hp, hq]
  rw [← hp] at hta
  rw [← hq] at htb
  have HTA : Hid (BLies w aa (trimL a)) := Lib.hid (by unfold trimL; exact ha.take _)
  have HTB : Hid (BLies w ab (trimL b)) := Lib.hid (by unfold trimL; exact hb.take _)
  have HP := Lib.hid hp
  have HQ := Lib.hid hq
  clear ha hb hla hlb hp hq hpl hql
  rw [hV, hE]
  clear hV hE
  by_cases h1 : p ≤ 256
  · have hd1 : decide ((256 : Int) < (p : Int)) = false := by simp; omega
    by_cases h2 : q ≤ 256
    · have hd2 : decide ((256 : Int) < (q : Int)) = false := by simp; omega
      rw [if_pos ⟨h1, h2⟩, if_pos ⟨h1, h2⟩]
      go_enter Try.func45, Try.ntmps45
      go_wp2_with fail
      refine (cut_n aa ca n a w HA.out HLA.out (by unfold maxLen; omega) hca).mono ?_
      rintro e w' ⟨rfl, rfl⟩
      rw [← HP.out]
      go_wp2_with fail
      refine (cut_n ab cb m b w HB.out HLB.out (by unfold maxLen; omega) hcb).mono ?_
      rintro e w' ⟨rfl, rfl⟩
      rw [← HQ.out]
      go_wp2_with fail
      refine (refProd_n aa ab ca cb p q (trimL a) (trimL b) w HTA.out HTB.out HPL.out HQL.out (by omega) (by omega)).mono ?_
      rintro e W ⟨a', n', c', rfl, hown, hg⟩
      have HO := Lib.hid hown
      have HG := Lib.hid hg
      clear hown hg
      go_wp2_with fail
      go_ret2
      exact ⟨a', n', c', rfl, HO.out, HG.out⟩
    · have hd2 : decide ((256 : Int) < (q : Int)) = true := by simp; omega
      rw [if_neg (by omega), if_neg (by omega)]
      go_enter Try.func45, Try.ntmps45
      go_wp2_with fail
      refine (cut_n aa ca n a w HA.out HLA.out (by unfold maxLen; omega) hca).mono ?_
      rintro e w' ⟨rfl, rfl⟩
      rw [← HP.out]
      go_wp2_with fail
      refine (cut_n ab cb m b w HB.out HLB.out (by unfold maxLen; omega) hcb).mono ?_
      rintro e w' ⟨rfl, rfl⟩
      rw [← HQ.out]
      go_wp2_with fail
      go_ret2
      exact ⟨none, 0, 0, rfl, Own.nil _ _ _ _ _, World.grownBy.refl _ _⟩
  · have hd1 : decide ((256 : Int) < (p : Int)) = true := by simp; omega
    rw [if_neg (by omega), if_neg (by omega)]
    go_enter Try.func45, Try.ntmps45
    go_wp2_with fail
    refine (cut_n aa ca n a w HA.out HLA.out (by unfold maxLen; omega) hca).mono ?_
    rintro e w' ⟨rfl, rfl⟩
    rw [← HP.out]
    go_wp2_with fail
    refine (cut_n ab cb m b w HB.out HLB.out (by unfold maxLen; omega) hcb).mono ?_
    rintro e w' ⟨rfl, rfl⟩
    rw [← HQ.out]
    go_wp2_with fail
    go_ret2
    exact ⟨none, 0, 0, rfl, Own.nil _ _ _ _ _, World.grownBy.refl _ _⟩

end Go.Proofs.Ytfikeilpgnahkaa
