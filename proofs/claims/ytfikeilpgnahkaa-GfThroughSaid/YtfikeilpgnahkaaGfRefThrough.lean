/- the document's Through: it comes to the same polynomial. -/
import Derived.Test.YtfikeilpgnahkaaGfLag
import Derived.Test.YtfikeilpgnahkaaGfRefTimes
import Derived.Test.YtfikeilpgnahkaaGfAwake
namespace Go.Proofs.Ytfikeilpgnahkaa
open Go.RowKit Go.Shelf

/-- filled from behind -/
def woI (s : List UInt8) (m : Nat) : Nat → List UInt8
  | 0 => List.replicate m 0
  | k + 1 => (woI s m k).set (m - 1 - k) (s.getD (m - 1 - k) 0)
theorem woI_len (s : List UInt8) (m : Nat) : ∀ k, (woI s m k).length = m
  | 0 => by simp [woI]
  | k + 1 => by rw [woI, List.length_set, woI_len s m k]
theorem woI_get (s : List UInt8) (m i : Nat) (hi : i < m) : ∀ k, k ≤ m → (woI s m k).getD i 0 = if m - k ≤ i then s.getD i 0 else 0
  | 0, _ => by
    rw [if_neg (by omega)]
    simp [woI, List.getD_eq_getElem?_getD, hi]
  | k + 1, h => by
    rw [woI, getD_set8, woI_len]
    by_cases h1 : m - 1 - k = i
    · rw [if_pos ⟨h1, hi⟩, if_pos (by omega), h1]
    · rw [if_neg (fun h => h1 h.1), woI_get s m i hi k (by omega)]
      by_cases h2 : m - k ≤ i
      · rw [if_pos h2, if_pos (by omega)]
      · rw [if_neg h2, if_neg (by omega)]
theorem woI_all (s : List UInt8) : woI s s.length s.length = s := by
  apply ext8 (woI_len _ _ _)
  intro i hi
  rw [woI_len] at hi
  rw [woI_get _ _ _ hi _ (Nat.le_refl _), if_pos (by omega)]

set_option maxRecDepth 100000 in
set_option maxHeartbeats 1000000 in
theorem refWithout_n (a : Option Addr) (c n m : Nat) (l : List UInt8) (x : UInt8) (w : World) (ha : BLies w a l) (hl : l.length = n) (hn : n = m + 1) (hm : m ≤ 4000000000) :
    Calls Try.prog 61 #[.slice a n c, .int .u8 (x.toNat : Int)] w fun e w' => ∃ a' c', e = .returned (.slice a' m c') ∧ BOwn w' w.heap.size a' m c' (sdL x l) ∧ w.grownBy w' none := by
  obtain ⟨ga, oa, haa⟩ : ∃ g o, a = some ⟨g, o, none⟩ := by
    obtain ⟨g, o, e, _⟩ := ha 0 (by omega)
    exact ⟨g, o, e⟩
  subst haa
  obtain ⟨s, hs⟩ : ∃ s, s = sdL x l := ⟨_, rfl⟩
  have hsl : s.length = m := by rw [hs, sdL_len]; omega
  have hsg : ∀ i, i + 1 < n → s.getD i 0 = evL (l.drop (i + 1)) x := fun i hi => by rw [hs]; exact sdL_get x l i (by omega)
  rw [← hs]
  obtain ⟨iu, hiu, hiuz, hius, hiub⟩ := info_parts (show (Try.prog.info? 5).map (fun i => (i.zero, i.size, i.bytes)) = some (some (.int .u8 0), 1, 1) by kernel_rfl)
  have hw1 : IntKind.i64.wrap ((n : Int) - 1) = (m : Int) := by rw [show (n : Int) - 1 = (m : Int) by omega]; exact IntWalk.i64_in _ (by omega)
  have hn1 : (n : Int) - 1 = (m : Int) := by omega
  have HA := Lib.hid ha
  have HL := Lib.hid hl
  have HSL := Lib.hid hsl
  have HSG := Lib.hid hsg
  have HN := Lib.hid hn
  clear ha hl hs hsl hsg hn
  go_enter Try.func61, Try.ntmps61
  go_wp2_with (refine wpList_mkB rfl _ _ 33 rfl 5 Try.underlying33 hiu hiuz hius hiub m rfl rfl (by omega) ?_; intro W1 hs1 hg1 hr1; have HR1 := Lib.hid hr1; have HG1 := Lib.hid hg1; clear hg1 hr1 hs1)
  go_loopw [6, 7] (fun vc vi wr => ∃ k i : Nat, k ≤ m ∧ i + k = m ∧ vi = .int .i64 i ∧ vc = .int .u8 ((evL (l.drop (i + 1)) x).toNat : Int) ∧ BRow wr w.heap.size 5 (woI s m k) ∧ w.grownBy wr none) (fun _ vi _ => (intOf vi).toNat)
  case atStart =>
    refine ⟨0, m, by omega, by omega, rfl, ?_, HR1.out, HG1.out⟩
    rw [List.drop_eq_nil_of_le (by have := HL.out; have := HN.out; omega)]
    rfl
  case round =>
    obtain ⟨k, i, hk, hik, rfl, rfl, hr, hg⟩ := hrel
    have HR := Lib.hid hr
    have HG := Lib.hid hg
    clear hr hg
    rcases Nat.eq_zero_or_pos i with rfl | hpos
    · obtain rfl : k = m := by omega
      have hall : woI s k k = s := by have := woI_all s; rwa [HSL.out] at this
      rw [hall] at HR
      clear hall
      obtain ⟨y, hy⟩ : ∃ y, y = evL (l.drop (0 + 1)) x := ⟨_, rfl⟩
      rw [← hy]
      clear hy
      go_wp2_with fail
      go_ret
      exact ⟨_, _, rfl, BRow.own HR.out (Nat.le_refl _) _ HSL.out (by unfold maxLen; omega), HG.out⟩
    · obtain ⟨j, rfl⟩ : ∃ j, i = j + 1 := ⟨i - 1, by omega⟩
      have hjn : j + 1 < l.length := by rw [HL.out]; have := HN.out; omega
      have hjn2 : j + 1 < n := by have := HN.out; omega
      obtain ⟨g', o', e1, hc⟩ := HA.out.grown HG.out (j + 1) hjn
      injection e1 with e1; injection e1 with e1 e2
      subst e1; subst e2
      obtain ⟨y, hy⟩ : ∃ y, y = l[j + 1] := ⟨_, rfl⟩
      obtain ⟨cy, hcy⟩ : ∃ cy, cy = evL (l.drop (j + 1 + 1)) x := ⟨_, rfl⟩
      obtain ⟨z, hz⟩ : ∃ z, z = evL (l.drop (j + 1)) x := ⟨_, rfl⟩
      have hzz : y ^^^ gm cy x = z := by rw [hz, evL_drop hjn, ← hy, ← hcy, UInt8.xor_comm]
      have hsj := HSG.out j (by omega)
      rw [← hz] at hsj
      rw [← hy] at hc
      rw [← hcy]
      have hst : woI s m (k + 1) = (woI s m k).set j z := by rw [woI, show m - 1 - k = j by omega, hsj]
      have HST := Lib.hid hst
      have hxx := xor_u8 y (gm cy x)
      rw [hzz] at hxx
      have e1 : IntKind.i64.wrap (((j + 1 : Nat) : Int) - 1) = (j : Int) := by rw [show ((j + 1 : Nat) : Int) - 1 = (j : Int) by omega]; exact IntWalk.i64_in _ (by omega)
      have hge : decide ((1 : Int) ≤ ((j + 1 : Nat) : Int)) = true := by simp; omega
      have hge2 : decide ((1 : Int) ≤ (j : Int) + 1) = true := by simp; omega
      have HZ := Lib.hid hz
      have hb1 : (0 : Int) ≤ (j : Int) + 1 := by omega
      have hb2 : (j : Int) + 1 < (n : Int) := by omega
      have hb3 : ((j : Int) + 1).toNat = j + 1 := by omega
      have hcc : wr.cell? ⟨ga, oa + (j + 1), none⟩ = some (.int .u8 (y.toNat : Int)) := hc
      clear hy hcy hz hzz hsj hst
      go_wp2_with fail
      go_quiet ((go_at_call 18; exact quietS (refMul_i _ _ cy x _ rfl rfl)))
      obtain ⟨W5, hW5⟩ : ∃ W5, W5 = wr.drewN nq := ⟨_, rfl⟩
      rw [← hW5]
      have hg5 : wr.grownBy W5 none := hW5 ▸ grownBy_drewN wr nq none
      have HR5 := Lib.hid (HR.out.grown hg5)
      have HG5 := Lib.hid (grownBy_trans HG.out hg5)
      have hil : j < (woI s m k).length := by rw [woI_len]; omega
      have cq5 := HR5.out.cell j hil
      have fq5 := HR5.out.frozen j
      have hgl := HR5.out.lt
      have hjm : j < m := by omega
      clear hc hcc hg5 hW5 hxx
      go_wp2_with fail
      go_roundw
      case rel =>
        refine ⟨k + 1, j, by omega, by omega, by go_num, ?_, ?_, grownBy_old HG5.out (grownBy_setCell _ _ _ _) (Nat.le_refl _)⟩
        · rw [← HZ.out]
        · rw [HST.out]
          exact BRow.set HR5.out _ _
      case measure => simp [intOf]

theorem PLies.cells {w : World} {a : Option Addr} {l : List (UInt8 × UInt8)} (h : PLies w a l) (k : Nat) (hk : k < l.length) : ∃ b off, a = some ⟨b, off, none⟩ ∧ w.cell? ⟨b, off + k * 2, none⟩ = some (.int .u8 (((l.getD k (0, 0)).1).toNat : Int)) ∧ w.cell? ⟨b, off + k * 2 + 1, none⟩ = some (.int .u8 (((l.getD k (0, 0)).2).toNat : Int)) := by
  obtain ⟨b, off, e, hc⟩ := h k hk
  have hg : l.getD k (0, 0) = l[k] := by simp [List.getD_eq_getElem?_getD, hk]
  rw [hg]
  exact ⟨b, off, e, hc 0 _ rfl, hc 1 _ rfl⟩

set_option maxRecDepth 100000 in
set_option maxHeartbeats 2000000 in
theorem refThrough_n (a : Option Addr) (c n : Nat) (l : List (UInt8 × UInt8)) (w : World) (ha : PLies w a l) (hl : l.length = n) (hn : n ≤ 140737488355328) :
    Calls Try.prog 48 #[.slice a n c] w fun e w' => ∃ a' n' c', e = .returned (.tuple #[.slice a' n' c', .int .i64 (throughE l : Nat)]) ∧ BOwn w' w.heap.size a' n' c' (throughV l) ∧ w.grownBy w' none := by
  have HA := Lib.hid ha
  have HL := Lib.hid hl
  clear ha hl
  by_cases hbig : 256 < n
  · have hd : decide ((256 : Int) < (n : Int)) = true := by simp; omega
    have hE : throughE l = 61 := by unfold throughE; rw [HL.out, if_pos hbig]
    have hV : throughV l = [] := by unfold throughV; rw [hE]; rfl
    rw [hE, hV]
    go_enter Try.func48, Try.ntmps48
    go_wp2_with fail
    go_ret2
    exact ⟨none, 0, 0, rfl, Own.nil _ _ _ _ _, World.grownBy.refl _ _⟩
  · have hd : decide ((256 : Int) < (n : Int)) = false := by simp; omega
    obtain ⟨iu, hiu, hiuz, hius, hiub⟩ := info_parts (show (Try.prog.info? 5).map (fun i => (i.zero, i.size, i.bytes)) = some (some (.int .u8 0), 1, 1) by kernel_rfl)
    go_enter Try.func48, Try.ntmps48
    go_wp2_with fail
    go_loopw [4] (fun vi wr => ∃ i : Nat, i ≤ n ∧ vi = .int .i64 i ∧ okTo l i = true ∧ w.grownBy wr none) (fun vi _ => n - (intOf vi).toNat)
    case atStart => exact ⟨0, by omega, rfl, rfl, World.grownBy.refl _ _⟩
    case round =>
      obtain ⟨i, hi, rfl, hok, hg⟩ := hrel
      have HK := Lib.hid hok
      have HG := Lib.hid hg
      clear hok hg
      by_cases hlt : i < n
      · obtain ⟨x, hx⟩ : ∃ x, x = (l.getD i (0, 0)).1 := ⟨_, rfl⟩
        obtain ⟨b, off, rfl, _, _⟩ := HA.out.cells i (by rw [HL.out]; exact hlt)
        have hok1 : okTo l (i + 1) = !((l.take i).any fun p => p.1 == x) := by rw [okTo, HK.out, ← hx]; rfl
        have HO := Lib.hid hok1
        have HX := Lib.hid hx
        clear hok1 hx
        go_wp2_with fail
        go_loopw [5] (fun vj wr2 => ∃ j : Nat, j ≤ i ∧ vj = .int .i64 j ∧ ((l.take j).any fun p => p.1 == x) = false ∧ w.grownBy wr2 none) (fun vj _ => i - (intOf vj).toNat)
        case atStart => exact ⟨0, by omega, rfl, rfl, HG.out⟩
        case round =>
          obtain ⟨j, hj, rfl, hf, hg2⟩ := hrel
          have HF := Lib.hid hf
          have HG2 := Lib.hid hg2
          clear hf hg2
          by_cases hlt2 : j < i
          · obtain ⟨b', o', e, cx, _⟩ := (HA.out.grown HG2.out).cells i (by rw [HL.out]; exact hlt)
            injection e with e; injection e with e1 e2
            subst e1; subst e2
            obtain ⟨b', o', e, cy, _⟩ := (HA.out.grown HG2.out).cells j (by rw [HL.out]; omega)
            injection e with e; injection e with e1 e2
            subst e1; subst e2
            rw [← HX.out] at cx
            obtain ⟨y, hy⟩ : ∃ y, y = (l.getD j (0, 0)).1 := ⟨_, rfl⟩
            rw [← hy] at cy
            have hjl : j < l.length := by rw [HL.out]; omega
            have htk : (l.take (j + 1)).any (fun p => p.1 == x) = (y == x) := by
              rw [List.take_succ_eq_append_getElem hjl, List.any_append, HF.out, hy]
              simp [List.getD_eq_getElem?_getD, hjl]
            have HTK := Lib.hid htk
            have hjn : j < n := by omega
            clear hy htk
            by_cases hxy : x = y
            · subst hxy
              have hany : ((l.take i).any fun p => p.1 == x) = true := by
                have h1 := HTK.out
                rw [beq_self_eq_true] at h1
                rw [List.any_eq_true] at h1 ⊢
                obtain ⟨p, hp, he⟩ := h1
                exact ⟨p, List.take_subset_take_left l (by omega) hp, he⟩
              have hE : throughE l = 62 := by unfold throughE; rw [HL.out, if_neg hbig, okTo_mono l (by rw [HO.out, hany]; rfl) n (by omega)]; rfl
              have hV : throughV l = [] := by unfold throughV; rw [hE]; rfl
              have HE := Lib.hid hE
              have HV := Lib.hid hV
              clear hE hV hany
              go_wp2_with fail
              go_quiet (fail)
              have HGD := Lib.hid (grownBy_trans HG2.out (grownBy_drewN wr nq none))
              go_wp2_with fail
              go_ret2
              rw [HE.out, HV.out]
              exact ⟨none, 0, 0, rfl, Own.nil _ _ _ _ _, HGD.out⟩
            · have hne : ((x.toNat : Int) == (y.toNat : Int)) = false := by rw [u8_beq]; simpa using hxy
              have hf2 : ((l.take (j + 1)).any fun p => p.1 == x) = false := by rw [HTK.out]; simpa using fun h => hxy h.symm
              have HF2 := Lib.hid hf2
              clear hf2 hxy
              go_wp2_with fail
              go_quiet (fail)
              have HGD := Lib.hid (grownBy_trans HG2.out (grownBy_drewN wr nq none))
              go_wp2_with fail
              go_roundw
              case rel => exact ⟨j + 1, by omega, by go_num, HF2.out, HGD.out⟩
              case measure => simp [intOf]; omega
          · obtain rfl : j = i := by omega
            go_wp2_with fail
            go_roundw
            case rel => exact ⟨j + 1, by omega, by go_num, by rw [HO.out, HF.out]; rfl, HG2.out⟩
            case measure => simp [intOf]; omega
      · obtain rfl : i = n := by omega
        have hE : throughE l = 0 := by unfold throughE; rw [HL.out, if_neg hbig, HK.out]; rfl
        have hV : throughV l = trimL (lgS l (thSQ l i).2 (i + 1) i) := by
          unfold throughV
          rw [hE, if_pos rfl, ← lg_same l (by rw [HL.out]; exact HK.out), HL.out]
        have hnu := nu_len l
        have HE := Lib.hid hE
        have HV := Lib.hid hV
        have HNU := Lib.hid hnu
        clear hE hV hnu
        obtain ⟨N, hN⟩ : ∃ N, N = i + 1 := ⟨_, rfl⟩
        have hw1 : IntKind.i64.wrap ((i : Int) + 1) = (N : Int) := by rw [show (i : Int) + 1 = (N : Int) by omega]; exact IntWalk.i64_in _ (by omega)
        have hNi : (i : Int) + 1 = (N : Int) := by omega
        have HN := Lib.hid hN
        clear hN
        go_wp2_with fail
        obtain ⟨W2, hW2⟩ : ∃ W2, W2 = wr.alloc (.cells #[.int .u8 1] 5) := ⟨_, rfl⟩
        rw [← hW2]
        have hg2 : wr.grownBy W2 none := hW2 ▸ World.grownBy_alloc _ _ none
        have hq0 : BOwn W2 w.heap.size (some ⟨wr.heap.size, 0, none⟩) 1 1 [1] := BRow.own (l := [1]) (g := wr.heap.size) (w := W2) (t := 5) (by rw [hW2]; exact heap_alloc_new wr _) HG.out.size 1 rfl (by decide)
        have HQ0 := Lib.hid hq0
        have HG2 := Lib.hid (grownBy_trans HG.out hg2)
        clear hW2 hg2 hq0
        go_loopw [6, 7] (fun vq vi wr2 => ∃ (j : Nat) (an : Option Addr) (nn cn : Nat), j ≤ i ∧ nn = j + 1 ∧ vi = .int .i64 j ∧ vq = .slice an nn cn ∧ BOwn wr2 w.heap.size an nn cn (thSQ l j).2 ∧ w.grownBy wr2 none) (fun _ vi _ => i - (intOf vi).toNat)
        case atStart => exact ⟨0, _, _, _, by omega, rfl, rfl, rfl, HQ0.out, HG2.out⟩
        case round =>
          obtain ⟨j, an, nn, cn, hj, hnn, rfl, rfl, hq, hg3⟩ := hrel
          have HQ := Lib.hid hq
          have HG3 := Lib.hid hg3
          clear hq hg3 HQ0 HG2
          by_cases hlt2 : j < i
          · obtain ⟨b, off, rfl, cx, _⟩ := (HA.out.grown HG3.out).cells j (by rw [HL.out]; exact hlt2)
            obtain ⟨x, hx⟩ : ∃ x, x = (l.getD j (0, 0)).1 := ⟨_, rfl⟩
            rw [← hx] at cx
            have hst : (thSQ l (j + 1)).2 = prodL (thSQ l j).2 [x, 1] := by rw [hx]; rfl
            have HST := Lib.hid hst
            have hlq : (thSQ l j).2.length = nn := by rw [hnn]; exact (HNU.out j).1
            have hnl := (HNU.out (j + 1)).1
            obtain ⟨q, hqe⟩ : ∃ q, q = (thSQ l j).2 := ⟨_, rfl⟩
            rw [← hqe] at HQ HST hlq
            have HLQ := Lib.hid hlq
            have HNL := Lib.hid hnl
            have hnb : nn ≤ 300 := by omega
            clear hx hst hlq hqe hnl hnn
            go_wp2_with fail
            have hx2 : BRow (wr.alloc (.cells #[.int .u8 (x.toNat : Int), .int .u8 1] 5)) wr.heap.size 5 [x, 1] := heap_alloc_new wr _
            have hga := World.grownBy_alloc wr (.cells #[.int .u8 (x.toNat : Int), .int .u8 1] 5) none
            refine (refProd_n an (some ⟨wr.heap.size, 0, none⟩) cn 2 nn 2 q [x, 1] _ (BOwn.lies (Own.ch HQ.out (Ch.ofNone hga (fun _ => False)) (fun _ _ _ h => h))) (BRow.lies hx2) HLQ.out rfl (by omega) (by omega)).mono ?_
            rintro e' W9 ⟨ar, nr, cr, rfl, hr9, hg9⟩
            have hr9l := hr9.len
            have hz9 : w.heap.size ≤ (wr.alloc (.cells #[.int .u8 (x.toNat : Int), .int .u8 1] 5)).heap.size := by have := HG3.out.size; rw [World.size_alloc]; omega
            have HR9 := Lib.hid (Own.mono hr9 hz9)
            have HG9 := Lib.hid (grownBy_trans (grownBy_trans HG3.out hga) hg9)
            rw [← HST.out, HNL.out] at hr9l
            clear hx2 hga hg9 hr9 hz9
            go_wp2_with fail
            go_roundw
            case rel => exact ⟨j + 1, ar, nr, cr, by omega, hr9l.symm, by go_num, rfl, by rw [HST.out]; exact HR9.out, HG9.out⟩
            case measure => simp [intOf]; omega
          · obtain rfl : j = i := by omega
            have hWl := (HNU.out j).1
            rw [← hnn] at hWl
            obtain ⟨Wl, hWle⟩ : ∃ Wl, Wl = (thSQ l j).2 := ⟨_, rfl⟩
            rw [← hWle] at HQ HV hWl
            have HWL := Lib.hid hWl
            have HNN := Lib.hid hnn
            have hlgl := lgS_len l Wl (j + 1)
            have hlgs : ∀ k, lgS l Wl (j + 1) (k + 1) = inF 0 (lgF l Wl k) (sdL (l.getD k (0, 0)).1 Wl) (lgS l Wl (j + 1) k) j := by
              intro k
              rw [lgS, sdL_len, hWl, hnn]
              rfl
            have hz0 : List.replicate (j + 1) (0 : UInt8) = lgS l Wl (j + 1) 0 := rfl
            rw [← HN.out] at hlgl hlgs HV hz0 hnn
            have HLGL := Lib.hid hlgl
            have HLGS := Lib.hid hlgs
            have hNb : N ≤ 257 := by have := HN.out; omega
            have hjN : j < N := by have := HN.out; omega
            subst hnn
            clear hWle hWl hlgl hlgs
            go_wp2_with (refine wpList_mkB rfl _ _ 33 rfl 5 Try.underlying33 hiu hiuz hius hiub nn rfl rfl (by omega) ?_; intro W3 hs3 hg3 hr3; have HR3 := Lib.hid hr3; have HG3' := Lib.hid hg3; clear hg3 hr3 hs3)
            rw [hz0] at HR3
            obtain ⟨gs, hgs⟩ : ∃ gs, gs = wr.heap.size := ⟨_, rfl⟩
            rw [← hgs] at HR3 ⊢
            have hwb : w.heap.size ≤ gs := by rw [hgs]; exact HG3.out.size
            have hinq : ∀ g, In an cn g → g ≠ gs := fun g h => by have := (Own.inn HQ.out h).2; omega
            have HQ3 := Lib.hid (Own.ch HQ.out (Ch.ofNone HG3'.out (fun _ => False)) (fun _ _ _ h => h))
            have HG4 := Lib.hid (grownBy_trans HG3.out HG3'.out)
            have HINQ := Lib.hid hinq
            clear hgs hinq hz0 HQ HG3 HG3'
            go_loopw [9] (fun vi wr2 => ∃ (k : Nat), k ≤ j ∧ vi = .int .i64 k ∧ BOwn wr2 w.heap.size an nn cn Wl ∧ BRow wr2 gs 5 (lgS l Wl nn k) ∧ w.grownBy wr2 none) (fun vi _ => j - (intOf vi).toNat)
            case atStart => exact ⟨0, by omega, rfl, HQ3.out, HR3.out, HG4.out⟩
            case round =>
              obtain ⟨k, hk, rfl, hq, hr, hg⟩ := hrel
              have HQ := Lib.hid hq
              have HR := Lib.hid hr
              have HG5 := Lib.hid hg
              clear hq hr hg HQ3 HR3 HG4
              by_cases hlt3 : k < j
              · obtain ⟨b, off, rfl, cx, cy⟩ := (HA.out.grown HG5.out).cells k (by rw [HL.out]; exact hlt3)
                obtain ⟨x, hx⟩ : ∃ x, x = (l.getD k (0, 0)).1 := ⟨_, rfl⟩
                obtain ⟨y, hy⟩ : ∃ y, y = (l.getD k (0, 0)).2 := ⟨_, rfl⟩
                rw [← hx] at cx
                rw [← hy] at cy
                obtain ⟨pt, hpt⟩ : ∃ pt, pt = sdL x Wl := ⟨_, rfl⟩
                have hptl : pt.length = j := by rw [hpt, sdL_len, HWL.out]; have := HNN.out; omega
                obtain ⟨f, hf⟩ : ∃ f, f = gm y (ginv (evL pt x)) := ⟨_, rfl⟩
                have hst := HLGS.out k
                have hff : lgF l Wl k = f := by rw [lgF, ← hx, ← hy, ← hpt, hf]
                rw [← hx, ← hpt, hff] at hst
                obtain ⟨S, hS⟩ : ∃ S, S = lgS l Wl nn k := ⟨_, rfl⟩
                have hSl : S.length = nn := by rw [hS]; exact HLGL.out k
                rw [← hS] at hst HR
                have HST := Lib.hid hst
                have HSL := Lib.hid hSl
                have HPT := Lib.hid hpt
                have HPTL := Lib.hid hptl
                have HF := Lib.hid hf
                clear hx hy hpt hptl hf hst hff hS hSl
                go_wp2_with fail
                refine (refWithout_n an cn nn j Wl x _ (BOwn.lies HQ.out) HWL.out HNN.out (by omega)).mono ?_
                rintro e' W6 ⟨ap, cp, rfl, hp6, hg6⟩
                rw [← HPT.out] at hp6
                have HP6 := Lib.hid hp6
                have HQ6 := Lib.hid (Own.ch HQ.out (Ch.ofNone hg6 (fun _ => False)) (fun _ _ _ h => h))
                have HR6 := Lib.hid (HR.out.grown hg6)
                have HG6 := Lib.hid (grownBy_trans HG5.out hg6)
                have hgw : gs < wr.heap.size := HR.out.lt
                have hinp : ∀ g, In ap cp g → g ≠ gs := fun g h => by have := (Own.inn hp6 h).1; omega
                have HINP := Lib.hid hinp
                obtain ⟨b', o', e, cx6, cy6⟩ := (HA.out.grown HG6.out).cells k (by rw [HL.out]; exact hlt3)
                have hcx : W6.cell? ⟨b, off + k * 2, none⟩ = some (.int .u8 (x.toNat : Int)) := by rw [← cx]; exact World.cell?_of_block (hg6.block b (World.block_lt_of_cell? _ _ cx) (by simp))
                have hcy : W6.cell? ⟨b, off + k * 2 + 1, none⟩ = some (.int .u8 (y.toNat : Int)) := by rw [← cy]; exact World.cell?_of_block (hg6.block b (World.block_lt_of_cell? _ _ cy) (by simp))
                obtain ⟨v, hv⟩ : ∃ v, v = evL pt x := ⟨_, rfl⟩
                rw [← hv] at HF
                have HVV := Lib.hid hv
                clear hp6 hg6 hgw hinp e cx6 cy6 cx cy hv
                have hev : ∀ q, Calls Try.prog 33 #[.slice ap j cp, .int .u8 (x.toNat : Int)] (W6.drewN q) fun e w' => e = .returned (.int .u8 (v.toNat : Int)) ∧ W6.drewN q = w' := fun q => by
                  have h := refEval_n ap cp j pt x (W6.drewN q) ((BOwn.lies HP6.out).drewN _) HPTL.out (by unfold maxLen; omega)
                  rw [← HVV.out] at h
                  exact h
                have HEV := Lib.hid hev
                clear hev
                go_wp2_with fail
                go_quiet ((first | (go_at_call 33; exact quietS (HEV.out _)) | (go_at_call 51; exact quietS (refInverse_i _ v _ rfl)) | (go_at_call 18; exact quietS (refMul_i _ _ y (ginv v) _ rfl rfl))))
                rw [← HF.out]
                obtain ⟨W7, hW7⟩ : ∃ W7, W7 = W6.drewN nq := ⟨_, rfl⟩
                rw [← hW7]
                have hg7 : W6.grownBy W7 none := hW7 ▸ grownBy_drewN W6 nq none
                have HP7 := Lib.hid (Own.ch HP6.out (Ch.ofNone hg7 (fun _ => False)) (fun _ _ _ h => h))
                have HQ7 := Lib.hid (Own.ch HQ6.out (Ch.ofNone hg7 (fun _ => False)) (fun _ _ _ h => h))
                have HR7 := Lib.hid (HR6.out.grown hg7)
                have HG7 := Lib.hid (grownBy_trans HG6.out hg7)
                clear hW7 hg7 hcx hcy HP6 HQ6 HR6 HG6 HQ HR
                go_wp2_with fail
                go_loopw [12] (fun vt wr3 => ∃ t : Nat, t ≤ j ∧ vt = .int .i64 t ∧ BRow wr3 gs 5 (inF 0 f pt S t) ∧ W7.grownBy wr3 (some gs)) (fun vt _ => j - (intOf vt).toNat)
                case atStart => exact ⟨0, by omega, rfl, HR7.out, World.grownBy.refl _ _⟩
                case round =>
                  obtain ⟨t, ht, rfl, hr3, hg3⟩ := hrel
                  by_cases hlt4 : t < j
                  · obtain ⟨z, hz⟩ : ∃ z, z = pt.getD t 0 := ⟨_, rfl⟩
                    obtain ⟨l1, hl1⟩ : ∃ l1, l1 = inF 0 f pt S t := ⟨_, rfl⟩
                    have hl1l : l1.length = nn := by rw [hl1, inF_len]; exact HSL.out
                    have hst : inF 0 f pt S (t + 1) = l1.set t (l1.getD t 0 ^^^ gm z f) := by rw [inF, Nat.zero_add, ← hl1, ← hz, gm_comm f z]
                    rw [← hl1] at hr3
                    obtain ⟨u, hu⟩ : ∃ u, u = l1.getD t 0 := ⟨_, rfl⟩
                    rw [← hu] at hst
                    have hcv : wr.drew.cell? ⟨gs, t, none⟩ = some (.int .u8 (u.toNat : Int)) := hu ▸ BRow.cell hr3 t (by omega)
                    have hfv : wr.drew.frozen? ⟨gs, t, none⟩ = false := BRow.frozen hr3 t
                    have hpl : BLies wr ap pt := (BOwn.lies HP7.out).grownNe hg3 (fun b off e => by
                      intro h
                      obtain ⟨g', e1, h1, h2⟩ := Own.block HP7.out (by have := HPTL.out; have := HP7.out.cap.1; omega)
                      rw [e1] at e
                      injection e with e; injection e with e
                      exact HINP.out g' ⟨by have := HPTL.out; have := HP7.out.cap.1; omega, e1⟩ (by rw [e, h]))
                    obtain ⟨bb, oo, hbb, hcz⟩ := hpl t (by rw [HPTL.out]; exact hlt4)
                    have hcz2 : wr.drew.cell? ⟨bb, oo + t, none⟩ = some (.int .u8 (z.toNat : Int)) := by
                      refine Eq.trans (b := wr.cell? ⟨bb, oo + t, none⟩) rfl ?_
                      rw [hcz, hz]; simp [show t < pt.length by rw [HPTL.out]; exact hlt4]
                    subst hbb
                    have hxx := xor_u8 u (gm z f)
                    have htn : t < nn := by omega
                    have HST2 := Lib.hid hst
                    have HR2 : Hid (BRow wr.drew gs 5 l1) := Lib.hid hr3
                    have HG2 : Hid (W7.grownBy wr.drew (some gs)) := Lib.hid ⟨hg3.os, hg3.tape, hg3.output, hg3.size, hg3.block⟩
                    clear hr3 hg3 hz hl1 hu hst hl1l hpl hcz
                    go_wp2_with fail
                    refine wp_region_still_tail 14 (by kernel_rfl) (by kernel_rfl) ?_
                    simp only [List.take_succ_cons, List.take_zero, List.drop_succ_cons, List.drop_zero]
                    change wpStill _ _ wr.drew (fun a' => wpList _ _ _ _ a' wr.drew) _ _
                    generalize wr.drew = W8 at *
                    repeat still_step
                    still_call ((refMul_i _ _ z f _ rfl rfl).mono (fun _ _ h => ⟨h.1, h.2.symm⟩))
                    repeat still_step
                    refine wpStill_nil ?_
                    clear hcz2 hxx
                    go_wp2_with fail
                    go_roundw
                    case rel =>
                      refine ⟨t + 1, by omega, by go_num, ?_, grownBy_trans HG2.out (grownBy_setCell _ _ _ _)⟩
                      rw [HST2.out, ← UInt8.toNat_xor]
                      exact BRow.set HR2.out _ _
                    case measure => simp [intOf]; omega
                  · obtain rfl : t = j := by omega
                    have HR2 := Lib.hid hr3
                    have HG2 := Lib.hid hg3
                    clear hr3 hg3
                    go_wp2_with fail
                    go_roundw
                    case rel =>
                      refine ⟨k + 1, by omega, by go_num, ?_, by rw [HST.out]; exact HR2.out, grownBy_old HG7.out HG2.out hwb⟩
                      exact Own.ch HQ7.out (Ch.ofSome (S := fun g => g = gs) HG2.out rfl) (fun h0 g e h => HINQ.out g ⟨h0, e⟩ h)
                    case measure => simp [intOf]; omega
              · obtain rfl : k = j := by omega
                obtain ⟨S, hS⟩ : ∃ S, S = lgS l Wl nn k := ⟨_, rfl⟩
                have hSl : S.length = nn := by rw [hS]; exact HLGL.out k
                have hV2 : throughV l = S.take (trimN S nn) := by rw [HV.out, ← hS]; unfold trimL; rw [hSl]
                rw [← hS] at HR
                have HV2 := Lib.hid hV2
                have HSL := Lib.hid hSl
                have htl := trimN_le S nn
                clear hS hSl hV2
                go_wp2_with (go_at_call 58; refine (cut_n (some ⟨gs, 0, none⟩) nn nn S _ (BRow.lies HR.out) HSL.out (by unfold maxLen; omega) (Nat.le_refl _)).mono ?_; rintro e w' ⟨rfl, rfl⟩)
                go_ret2
                refine ⟨_, _, _, by rw [HE.out]; rfl, ?_, HG5.out⟩
                rw [HV2.out]
                exact BRow.ownTake HR.out hwb _ _ HSL.out htl (by unfold maxLen; omega)

end Go.Proofs.Ytfikeilpgnahkaa
