/- slices.Grow from nothing, slices.Concat, octet.Join. -/
import Derived.Test.YthemlaibjchjpaaAppZeros
import Derived.Test.YthemlaibjchjpaaLists
import Derived.Test.YthemlaibjchjpaaCh
namespace Go.Proofs.Ythemlaibjchjpaa
open Go.RowKit

theorem run_app_empty (w : World) (a x : Option Addr) (n c c2 : Nat) (hn : n ≤ c) (hc : c ≤ maxLen) (ha : a = none → c = 0) (ty : TypeId) : (Builtin.append_ #[22, 22] ty #[.slice a n c, .slice x 0 c2]).run Try.prog w = .ok (.slice a n c) w := by
  obtain ⟨i, hi, hz, hs, hb⟩ := elB.info
  unfold maxLen at hc
  cases a with
  | none =>
    obtain rfl : c = 0 := ha rfl
    obtain rfl : n = 0 := by omega
    cases x <;> simp [Builtin.append_, run_underlying Try.underlying22, sizeOf, typeInfo, hi, hs, Builtin.lenOf, Builtin.firstCells, loadCells, loadCellsFrom]
  | some ad =>
    have hnot : ¬ c < n := by omega
    cases x <;> simp [Builtin.append_, run_underlying Try.underlying22, sizeOf, typeInfo, hi, hs, Builtin.lenOf, Builtin.firstCells, loadCells, loadCellsFrom, hn, hnot, storeCells]

theorem own_cut0 {w : World} {base : Nat} {e : TypeId} {a : Option Addr} {n c : Nat} {xs : List Value} (h : Own w base e 1 a n c xs) : Own w base e 1 a 0 c [] := by
  rcases h.2 with ⟨h0, h1⟩ | ⟨g, cur, ha, hb, hh, hn, hm, hs, ht⟩
  · exact ⟨rfl, .inl ⟨rfl, h1⟩⟩
  · exact ⟨rfl, .inr ⟨g, cur, ha, hb, hh, Nat.zero_le _, hm, hs, by simp⟩⟩

set_option maxRecDepth 100000 in
set_option maxHeartbeats 1000000 in
theorem grow_n (n : Nat) (w : World) (hn : n ≤ 4000000000) :
    Calls Try.prog 80 #[.slice none 0 0, .int .i64 (n : Int)] w fun e w' => ∃ a c, e = .returned (.slice a 0 c) ∧ BOwn w' w.heap.size a 0 c [] ∧ w.grownBy w' none := by
  rcases Nat.eq_zero_or_pos n with rfl | hpos
  · go_enter Try.func80, Try.ntmps80
    go_wp2_with fail
    go_ret
    exact ⟨none, 0, rfl, Own.nil _ _ _ _ _, World.grownBy.refl _ _⟩
  · obtain ⟨g, c', w1, hrun, ho, hgr⟩ := run_appz (P := Try.prog) (ty := 22) w elB rfl rfl Try.underlying3 (Own.nil w w.heap.size 5 1 none) n hpos (by unfold maxLen; omega) (by omega) (Nat.le_refl _) .i64
    have hg := hgr.grew.grown (Own.nil w w.heap.size 5 1 none) (World.grownBy.refl _ _) (Nat.le_refl _)
    have hd0 : decide ((n : Int) < 0) = false := by simp
    have hd1 : decide ((0 : Int) < (n : Int)) = true := by simp; omega
    have HO := Lib.hid ho
    have HG := Lib.hid hg
    have HRUN := Lib.hid hrun
    clear ho hg hgr hrun
    go_enter Try.func80, Try.ntmps80
    go_wp2_with (at_builtin; refine Lib.wpList_append_run _ rfl _ _ _ _ rfl _ _ rfl rfl _ _ HRUN.out ?_)
    go_ret
    exact ⟨_, c', rfl, own_cut0 HO.out, HG.out⟩

set_option maxRecDepth 100000 in
set_option maxHeartbeats 2000000 in
theorem concat_n (a : Option Addr) (c K : Nat) (L : List Sl) (bs : List (List UInt8)) (w : World) (hL : LLies w a L bs) (hK : bs.length = K) (hf : bs.flatten.length ≤ 1000000000) (hK2 : K ≤ 4000000000) :
    Calls Try.prog 69 #[.slice a K c] w fun e w' => ∃ a' m c', e = .returned (.slice a' m c') ∧ BOwn w' w.heap.size a' m c' bs.flatten ∧ w.grownBy w' none := by
  have pre : ∀ i, (bs.take i).flatten.length ≤ bs.flatten.length := fun i => by
    have h := congrArg List.length (congrArg List.flatten (List.take_append_drop i bs))
    rw [List.flatten_append, List.length_append] at h
    omega
  have HLL := Lib.hid hL
  have HK := Lib.hid hK
  have HP := Lib.hid pre
  have HF := Lib.hid hf
  clear hL hK pre hf
  go_enter Try.func69, Try.ntmps69
  go_wp2_with fail
  go_loopw [3, 11] (fun vs vi wr => ∃ i s : Nat, i ≤ K ∧ Hid (s = (bs.take i).flatten.length) ∧ vi = .int .i64 i ∧ vs = .int .i64 s ∧ w = wr) (fun _ vi _ => K - (intOf vi).toNat)
  case atStart => exact ⟨0, 0, by omega, Lib.hid (by simp), rfl, rfl, rfl⟩
  case round =>
    obtain ⟨i, s, hi, HS, rfl, rfl, rfl⟩ := hrel
    by_cases hlt : i < K
    · have hib : i < bs.length := by rw [HK.out]; exact hlt
      have hiL : i < L.length := by rw [HLL.out.2.1]; exact hib
      obtain ⟨g, o, haa, hc⟩ := HLL.out.1 i (by rw [List.length_map]; exact hiL)
      have hin := HLL.out.2.2 i hiL hib
      subst haa
      obtain ⟨b, hb⟩ : ∃ b, b = bs[i] := ⟨_, rfl⟩
      obtain ⟨sl, hsl⟩ : ∃ sl, sl = L[i] := ⟨_, rfl⟩
      rw [← hb, ← hsl] at hin
      have hc' : w.cell? ⟨g, o + i, none⟩ = some sl.val := by rw [hc, hsl]; simp
      obtain ⟨sa, sn, sc⟩ := sl
      have hsn : sn = b.length := hin.2
      have hnext : s + sn = (bs.take (i + 1)).flatten.length := by
        rw [List.take_succ_eq_append_getElem hib, List.flatten_append, List.length_append, ← hb, HS.out, hsn]
        simp
      have hp := HP.out (i + 1)
      rw [← hnext] at hp
      have hs1 := HF.out
      have hcc : w.cell? ⟨g, o + i, none⟩ = some (.slice sa sn sc) := hc'
      have hw : IntKind.i64.wrap ((s : Int) + (sn : Int)) = (s : Int) + (sn : Int) := IntWalk.i64_in _ (by omega)
      have hd0 : decide ((s : Int) + (sn : Int) < 0) = false := by simp; omega
      have HNX := Lib.hid hnext
      clear hin hb hsl hc hc' hsn hnext hp hs1
      go_wp2_with fail
      go_roundw
      case rel => exact ⟨i + 1, s + sn, by omega, HNX, by go_num, by first | rfl | go_num, by first | rfl | trivial⟩
      case measure => simp [intOf]; omega
    · obtain rfl : i = K := by omega
      have htk : bs.take i = bs := List.take_of_length_le (by rw [HK.out]; exact Nat.le_refl _)
      have hs2 : s ≤ 4000000000 := by have h1 := HS.out; have h2 := HF.out; rw [htk] at h1; omega
      have HTK := Lib.hid htk
      clear htk
      go_wp2_with fail
      refine (grow_n s w hs2).mono ?_
      rintro e w1 ⟨a1, c1, rfl, ho, hg⟩
      have HO := Lib.hid ho
      have HG := Lib.hid hg
      clear ho hg
      go_wp2_with fail
      go_loopw [6, 27] (fun v vi wr => ∃ (j r : Nat) (a' : Option Addr) (c' : Nat), j ≤ i ∧ vi = .int .i64 j ∧ v = .slice a' r c' ∧ BOwn wr w.heap.size a' r c' (bs.take j).flatten ∧ w.grownBy wr none) (fun _ vi _ => i - (intOf vi).toNat)
      case atStart => exact ⟨0, 0, a1, c1, by omega, rfl, rfl, HO.out, HG.out⟩
      case round =>
        obtain ⟨j, r, a', c', hj, rfl, rfl, ho, hg⟩ := hrel
        replace HO := Lib.hid ho
        replace HG := Lib.hid hg
        have HR := Lib.hid (BOwn.len ho)
        clear ho hg
        by_cases hlt2 : j < i
        · have hib : j < bs.length := by rw [HK.out]; exact hlt2
          have hLw := HLL.out.grown HG.out
          have hiL : j < L.length := by rw [HLL.out.2.1]; exact hib
          obtain ⟨g, o, haa, hc⟩ := hLw.1 j (by rw [List.length_map]; exact hiL)
          have hin := hLw.2.2 j hiL hib
          subst haa
          obtain ⟨b, hb⟩ : ∃ b, b = bs[j] := ⟨_, rfl⟩
          obtain ⟨sl, hsl⟩ : ∃ sl, sl = L[j] := ⟨_, rfl⟩
          rw [← hb, ← hsl] at hin
          have hc' : wr.cell? ⟨g, o + j, none⟩ = some sl.val := by rw [hc, hsl]; simp
          obtain ⟨sa, sn, sc⟩ := sl
          obtain ⟨hbl, hsn⟩ := hin
          have hsn' : sn = b.length := hsn
          have hbl' : BLies wr sa b := hbl
          have hstep : (bs.take (j + 1)).flatten = (bs.take j).flatten ++ b := by
            rw [List.take_succ_eq_append_getElem hib, List.flatten_append, ← hb]
            simp
          have hp := HP.out (j + 1)
          rw [hstep, List.length_append, HR.out, ← hsn'] at hp
          have hff := HF.out
          have hsz := HG.out.size
          have HB := Lib.hid hbl'
          have HSN := Lib.hid hsn'
          have HST := Lib.hid hstep
          have hcc : wr.cell? ⟨g, o + j, none⟩ = some (.slice sa sn sc) := hc'
          have hrn : r + sn ≤ 1000000000 := by omega
          clear hb hsl hc hc' hsn hsn' hbl hbl' hstep hp hff hLw
          rcases Nat.eq_zero_or_pos sn with rfl | hpos
          · have hb0 : b = [] := List.eq_nil_of_length_eq_zero HSN.out.symm
            have hcap := HO.out.cap
            have hno : a' = none → c' = 0 := fun h => by
              by_cases h0 : 0 < c'
              · obtain ⟨g', e, _⟩ := Own.block HO.out h0
                rw [h] at e; cases e
              · omega
            have HRE := Lib.hid (fun W => run_app_empty (ty := 22) W a' sa r c' sc hcap.1 hcap.2 hno)
            clear hno hcap
            go_wp2_with (at_builtin; go_loud (refine Lib.wpList_append_run _ rfl _ _ _ _ rfl _ _ rfl rfl _ _ (HRE.out _) ?_))
            go_roundw
            case rel => exact ⟨j + 1, r, a', c', by omega, by go_num, rfl, by rw [HST.out, hb0, List.append_nil]; exact HO.out, HG.out⟩
            case measure => simp [intOf]; omega
          · obtain ⟨bb, boff, rfl⟩ := HB.out.addr (by rw [← HSN.out]; omega)
            go_wp2_with (at_builtin; refine wpList_app elB rfl (.tmp 31) (.tmp 32) rfl rfl HO.out ⟨bb, boff, none⟩ sn sc (b.map bval) rfl (by rw [List.length_map, ← HSN.out, Nat.mul_one]) HB.out.news (bval_one b) (by unfold maxLen; omega) (by omega) hsz (by omega) ?_; intro g cap w2 hown2 hgr; have HO2 := Lib.hid hown2; have HG2 := Lib.hid (hgr.grew.grown HO.out HG.out (Nat.le_refl _)); clear hown2 hgr)
            go_roundw
            case rel =>
              refine ⟨j + 1, r + sn, _, _, by omega, by go_num, rfl, ?_, HG2.out⟩
              rw [HST.out]
              unfold BOwn
              rw [List.map_append]
              exact HO2.out
            case measure => simp [intOf]; omega
        · obtain rfl : j = i := by omega
          rw [HTK.out] at HO
          go_wp2_with fail
          go_ret
          exact ⟨_, _, _, rfl, HO.out, HG.out⟩

set_option maxRecDepth 100000 in
theorem joinB_n (a : Option Addr) (c K : Nat) (L : List Sl) (bs : List (List UInt8)) (w : World) (hL : LLies w a L bs) (hK : bs.length = K) (hf : bs.flatten.length ≤ 1000000000) (hK2 : K ≤ 4000000000) :
    Calls Try.prog 35 #[.slice a K c] w fun e w' => ∃ a' m c', e = .returned (.slice a' m c') ∧ BOwn w' w.heap.size a' m c' bs.flatten ∧ w.grownBy w' none := by
  have HC := Lib.hid (concat_n a c K L bs w hL hK hf hK2)
  clear hL hK hf hK2
  go_enter Try.func35, Try.ntmps35
  go_wp2_with fail
  refine HC.out.mono ?_
  rintro e w1 ⟨a', m, c', rfl, ho, hg⟩
  have HO := Lib.hid ho
  have HG := Lib.hid hg
  clear ho hg
  go_wp2_with fail
  go_ret
  exact ⟨a', m, c', rfl, HO.out, HG.out⟩

end Go.Proofs.Ythemlaibjchjpaa
