/- Helpers and contracts of the proofs over this seat: AppZeros, Concat, Pcs, Mid, RdInts. Each states what a function of the program answers, or is plain Lean; its conditions stand in each statement. -/
import Derived.Lib.AppendZerosOnto
import Derived.Deep.Slices
import Derived.Test.YtblgdfamomlklaaPtAA
import Derived.Test.YtblgdfamomlklaaPtAD
set_option linter.unusedVariables false
/- append of made zeros to a row that the call owns. -/
namespace Go.Proofs.Ytblgdfamomlklaa
open Go.RowKit

section
variable {P : Program}

theorem zero_cells_one (z : Value) (k : Nat) : Builtin.zeroCells #[z] k = (List.replicate k z).toArray := by
  apply Array.toList_inj.1
  simp [Builtin.zeroCells]
  apply List.ext_getElem
  · simp
  · intro i h1 h2
    simp [Nat.mod_one]

theorem firstCells_own (w : World) {e : TypeId} {base : Nat} {a : Option Addr} {n c : Nat} {xs : List Value} (hown : Own w base e 1 a n c xs) : (Builtin.firstCells 1 n (.slice a n c)).run P w.drew = .ok xs.toArray w.drew := by
  rcases hown.2 with ⟨rfl, rfl⟩ | ⟨g, cur, rfl, hbg, hg, hnc, hcm, hcs, htake⟩
  · have hx : xs = [] := List.eq_nil_of_length_eq_zero (by simpa using hown.1)
    subst hx
    cases a with
    | none => exact run_firstCells_none ..
    | some ad => exact run_firstCells_some (P := P) w.drew 1 0 ad 0 0 [] (by simp) (by simp)
  · exact run_firstCells_some (P := P) w.drew 1 n ⟨g, 0, none⟩ n c xs (by simpa using hown.1) (by
      intro j u hu
      have hadd : (⟨g, 0, none⟩ : Addr).add j = ⟨g, j, none⟩ := by unfold Addr.add; split <;> simp_all
      obtain ⟨hj, rfl⟩ := List.getElem?_eq_some_iff.1 hu
      obtain ⟨g', e1, _, _, hc, _⟩ := hown.cell j hj
      obtain rfl : g = g' := by simpa using e1
      rw [hadd]; exact hc)

theorem run_appz (w : World) {t tn ty e : TypeId} {z : Value} {bytes : Nat} (H : El P t e z 1 bytes) (hz1 : z.cells = #[z]) (ho1 : z.oneCell' = true) {kn : IntKind} (htn : P.underlying tn = some (.int kn)) {base : Nat} {a : Option Addr} {n c : Nat} {xs : List Value} (hown : Own w base e 1 a n c xs)
    (k : Nat) (hk : 0 < k) (h63 : n + k ≤ maxLen) (hbytes : (n + k) * bytes ≤ 140737488355328) (hbase : base ≤ w.heap.size) (kq : IntKind) :
    ∃ g c' w1, (Builtin.append_ #[t, tn] ty #[.slice a n c, .int kq k]).run P w = .ok (.slice (some ⟨g, 0, none⟩) (n + k) c') w1 ∧ Own w1 base e 1 (some ⟨g, 0, none⟩) (n + k) c' (xs ++ List.replicate k z) ∧ GrewP w w1 a c (some ⟨g, 0, none⟩) c' := by
  obtain ⟨ht, ⟨i, hi, hz, hs1, rfl⟩, hzs, hsz⟩ := H
  have hsmall : n + k ≤ 9223372036854775807 := by simp only [maxLen] at h63; omega
  have hxl : xs.length = n := by simpa using hown.1
  have hlen : (xs ++ List.replicate k z).length = (n + k) * 1 := by simp [hxl]
  have hkb : k * i.bytes ≤ 281474976710656 := by have : k * i.bytes ≤ (n + k) * i.bytes := Nat.mul_le_mul_right _ (by omega); omega
  by_cases hroom : n + k ≤ c
  · rcases hown.2 with ⟨rfl, rfl⟩ | ⟨g, cur, rfl, hbg, hg, hnc, hcm, hcs, htake⟩
    · omega
    · have hrl : (List.replicate k z).length = k := by simp
      have hst := run_storeCells_at (P := P) g n e (List.replicate k z) 0 cur w hg (by simp; omega) (by intro v hv; rw [List.eq_of_mem_replicate hv]; exact ho1)
      simp only [Nat.add_zero, hrl] at hst
      have hw : IntKind.i64.wrap (k : Int) = k := by rw [IntKind.wrap_i64]; omega
      have hneg : ¬ ((k : Int) < 0) := by omega
      have hadd : (⟨g, 0, none⟩ : Addr).add n = ⟨g, n, none⟩ := by unfold Addr.add; split <;> simp_all
      have h48i : ¬ (281474976710656 < (k : Int) * (i.bytes : Int)) := by rw [← Int.natCast_mul]; omega
      have hk0 : k ≠ 0 := by omega
      have hr : (Builtin.append_ #[t, tn] ty #[.slice (some ⟨g, 0, none⟩) n c, .int kq k]).run P w = .ok (.slice (some ⟨g, 0, none⟩) (n + k) c) (w.setRow g (cur.toList.take n ++ List.replicate k z ++ cur.toList.drop (n + k)).toArray) := by
        simp [Builtin.append_, run_underlying ht, run_underlying htn, sizeOf, typeInfo, zeroValue, hi, hz, hz1, hs1, asInt, asIntOf, hw, hneg, h48i, hroom, hk0, zero_cells_one, hadd, hst]
      refine ⟨_, _, _, hr, ⟨hlen, .inr ⟨g, _, rfl, hbg, setRow_heap w g cur _ e _ hg, hroom, hcm, ?_, ?_⟩⟩, .inl ⟨g, rfl, rfl, by omega, rfl, ⟨rfl, rfl, rfl, by simp, fun k _ hk => setRow_other w g k _ (fun e => hk (by simp [e]))⟩⟩⟩
      · simp
        omega
      · have ht' : List.take n cur.toList = xs := by rw [← htake, Nat.mul_one]
        rw [ht', ← hlen]
        exact List.take_left
  · have hr := Lib.run_append_grow_zeros (P := P) w t tn ty e i z kq kn ht htn hi hz a n c xs (by rw [hs1]; exact firstCells_own w hown) k hk (by omega) (by omega) (by omega) hkb (growslice_fits (by omega) hbytes)
    have hge := grownCap_ge w (n + k) c e
    have hcm : grownCap w (n + k) c e ≤ maxLen := grownCap_le_maxLen w (n + k) c e h63
    refine ⟨_, _, _, hr, ⟨hlen, .inr ⟨w.heap.size, _, rfl, hbase, heap_alloc_new w.drew _, hge, hcm, ?_, ?_⟩⟩, .inr ⟨_, rfl, Nat.le_refl _, ⟨rfl, rfl, rfl, by simp, fun k hk _ => Below.heap_alloc w.drew _ k hk⟩⟩⟩
    · rw [hz1, zero_cells_one, zero_cells_one]
      simp [hxl]
      omega
    · rw [hz1, zero_cells_one, zero_cells_one]
      simp only [Array.toList_append, ← hlen]
      exact List.take_left

end

end Go.Proofs.Ytblgdfamomlklaa
/- slices.Grow from nothing, slices.Concat, octet.Join. -/
namespace Go.Proofs.Ytblgdfamomlklaa
open Go.RowKit

theorem run_app_empty (w : World) (a x : Option Addr) (n c c2 : Nat) (hn : n ≤ c) (hc : c ≤ maxLen) (ha : a = none → c = 0) (ty : TypeId) : (Builtin.append_ #[34, 34] ty #[.slice a n c, .slice x 0 c2]).run Try.prog w = .ok (.slice a n c) w := by
  obtain ⟨i, hi, hz, hs, hb⟩ := elB.info
  unfold maxLen at hc
  cases a with
  | none =>
    obtain rfl : c = 0 := ha rfl
    obtain rfl : n = 0 := by omega
    cases x <;> simp [Builtin.append_, run_underlying Try.underlying34, sizeOf, typeInfo, hi, hs, Builtin.lenOf, Builtin.firstCells, loadCells, loadCellsFrom]
  | some ad =>
    have hnot : ¬ c < n := by omega
    cases x <;> simp [Builtin.append_, run_underlying Try.underlying34, sizeOf, typeInfo, hi, hs, Builtin.lenOf, Builtin.firstCells, loadCells, loadCellsFrom, hn, hnot, storeCells]

theorem own_cut0 {w : World} {base : Nat} {e : TypeId} {a : Option Addr} {n c : Nat} {xs : List Value} (h : Own w base e 1 a n c xs) : Own w base e 1 a 0 c [] := by
  rcases h.2 with ⟨h0, h1⟩ | ⟨g, cur, ha, hb, hh, hn, hm, hs, ht⟩
  · exact ⟨rfl, .inl ⟨rfl, h1⟩⟩
  · exact ⟨rfl, .inr ⟨g, cur, ha, hb, hh, Nat.zero_le _, hm, hs, by simp⟩⟩

set_option maxRecDepth 100000 in
set_option maxHeartbeats 1000000 in
theorem grow_n (n : Nat) (w : World) (hn : n ≤ 4000000000) :
    Calls Try.prog 50 #[.slice none 0 0, .int .i64 (n : Int)] w fun e w' => ∃ a c, e = .returned (.slice a 0 c) ∧ BOwn w' w.heap.size a 0 c [] ∧ w.grownBy w' none := by
  rcases Nat.eq_zero_or_pos n with rfl | hpos
  · go_enter Try.func50, Try.ntmps50
    go_wp2_with fail
    go_ret
    exact ⟨none, 0, rfl, Own.nil _ _ _ _ _, World.grownBy.refl _ _⟩
  · obtain ⟨g, c', w1, hrun, ho, hgr⟩ := run_appz (P := Try.prog) (ty := 34) w elB rfl rfl Try.underlying3 (Own.nil w w.heap.size 5 1 none) n hpos (by unfold maxLen; omega) (by omega) (Nat.le_refl _) .i64
    have hg := hgr.grew.grown (Own.nil w w.heap.size 5 1 none) (World.grownBy.refl _ _) (Nat.le_refl _)
    have hd0 : decide ((n : Int) < 0) = false := by simp
    have hd1 : decide ((0 : Int) < (n : Int)) = true := by simp; omega
    have HO := Lib.hid ho
    have HG := Lib.hid hg
    have HRUN := Lib.hid hrun
    clear ho hg hgr hrun
    go_enter Try.func50, Try.ntmps50
    go_wp2_with (at_builtin; refine Lib.wpList_append_run _ rfl _ _ _ _ rfl _ _ rfl rfl _ _ HRUN.out ?_)
    go_ret
    exact ⟨_, c', rfl, own_cut0 HO.out, HG.out⟩

set_option maxRecDepth 100000 in
set_option maxHeartbeats 4000000 in
theorem concat_n (a : Option Addr) (c K : Nat) (L : List Sl) (bs : List (List UInt8)) (w : World) (hL : LLies w a L bs) (hK : bs.length = K) (hf : bs.flatten.length ≤ 1000000000) (hK2 : K ≤ 4000000000) :
    Calls Try.prog 43 #[.slice a K c] w fun e w' => ∃ a' m c', e = .returned (.slice a' m c') ∧ BOwn w' w.heap.size a' m c' bs.flatten ∧ w.grownBy w' none := by
  have pre : ∀ i, (bs.take i).flatten.length ≤ bs.flatten.length := fun i => by
    have h := congrArg List.length (congrArg List.flatten (List.take_append_drop i bs))
    rw [List.flatten_append, List.length_append] at h
    omega
  have HLL := Lib.hid hL
  have HK := Lib.hid hK
  have HP := Lib.hid pre
  have HF := Lib.hid hf
  clear hL hK pre hf
  go_enter Try.func43, Try.ntmps43
  go_wp2_with fail
  go_loopw [3, 11] (fun vs vi wr => ∃ i s : Nat, i ≤ K ∧ Hid (s = (bs.take i).flatten.length) ∧ vi = .int .i64 i ∧ vs = .int .i64 s ∧ w = wr) (fun _ vi _ => K - (intOf vi).toNat)
  case atStart => exact ⟨0, 0, by omega, Lib.hid (by simp), rfl, rfl, rfl⟩
  case round =>
    obtain ⟨i, s, hi, HS, rfl, rfl, rfl⟩ := hrel
    by_cases hlt : i < K
    · have hib : i < bs.length := by rw [HK.out]; exact hlt
      have hiL : i < L.length := by rw [HLL.out.2.1]; exact hib
      obtain ⟨g, o, haa, hc⟩ := HLL.out.1 i (by rw [List.length_map]; exact hiL)
      have hin := HLL.out.2.2 i hiL hib
      subst haa
      obtain ⟨b, hb⟩ : ∃ b, b = bs[i] := ⟨_, rfl⟩
      obtain ⟨sl, hsl⟩ : ∃ sl, sl = L[i] := ⟨_, rfl⟩
      rw [← hb, ← hsl] at hin
      have hc' : w.cell? ⟨g, o + i, none⟩ = some sl.val := by rw [hc, hsl]; simp
      obtain ⟨sa, sn, sc⟩ := sl
      have hsn : sn = b.length := hin.2
      have hnext : s + sn = (bs.take (i + 1)).flatten.length := by
        rw [List.take_succ_eq_append_getElem hib, List.flatten_append, List.length_append, ← hb, HS.out, hsn]
        simp
      have hp := HP.out (i + 1)
      rw [← hnext] at hp
      have hs1 := HF.out
      have hcc : w.cell? ⟨g, o + i, none⟩ = some (.slice sa sn sc) := hc'
      have hw : IntKind.i64.wrap ((s : Int) + (sn : Int)) = (s : Int) + (sn : Int) := IntWalk.i64_in _ (by omega)
      have hd0 : decide ((s : Int) + (sn : Int) < 0) = false := by simp; omega
      have HNX := Lib.hid hnext
      clear hin hb hsl hc hc' hsn hnext hp hs1
      go_wp2_with fail
      go_roundw
      case rel => exact ⟨i + 1, s + sn, by omega, HNX, by go_num, by first | rfl | go_num, by first | rfl | trivial⟩
      case measure => simp [intOf]; omega
    · obtain rfl : i = K := by omega
      have htk : bs.take i = bs := List.take_of_length_le (by rw [HK.out]; exact Nat.le_refl _)
      have hs2 : s ≤ 4000000000 := by have h1 := HS.out; have h2 := HF.out; rw [htk] at h1; omega
      have HTK := Lib.hid htk
      clear htk
      go_wp2_with fail
      refine (grow_n s w hs2).mono ?_
      rintro e w1 ⟨a1, c1, rfl, ho, hg⟩
      have HO := Lib.hid ho
      have HG := Lib.hid hg
      clear ho hg
      go_wp2_with fail
      go_loopw [6, 27] (fun v vi wr => ∃ (j r : Nat) (a' : Option Addr) (c' : Nat), j ≤ i ∧ vi = .int .i64 j ∧ v = .slice a' r c' ∧ BOwn wr w.heap.size a' r c' (bs.take j).flatten ∧ w.grownBy wr none) (fun _ vi _ => i - (intOf vi).toNat)
      case atStart => exact ⟨0, 0, a1, c1, by omega, rfl, rfl, HO.out, HG.out⟩
      case round =>
        obtain ⟨j, r, a', c', hj, rfl, rfl, ho, hg⟩ := hrel
        replace HO := Lib.hid ho
        replace HG := Lib.hid hg
        have HR := Lib.hid (BOwn.len ho)
        clear ho hg
        by_cases hlt2 : j < i
        · have hib : j < bs.length := by rw [HK.out]; exact hlt2
          have hLw := HLL.out.grown HG.out
          have hiL : j < L.length := by rw [HLL.out.2.1]; exact hib
          obtain ⟨g, o, haa, hc⟩ := hLw.1 j (by rw [List.length_map]; exact hiL)
          have hin := hLw.2.2 j hiL hib
          subst haa
          obtain ⟨b, hb⟩ : ∃ b, b = bs[j] := ⟨_, rfl⟩
          obtain ⟨sl, hsl⟩ : ∃ sl, sl = L[j] := ⟨_, rfl⟩
          rw [← hb, ← hsl] at hin
          have hc' : wr.cell? ⟨g, o + j, none⟩ = some sl.val := by rw [hc, hsl]; simp
          obtain ⟨sa, sn, sc⟩ := sl
          obtain ⟨hbl, hsn⟩ := hin
          have hsn' : sn = b.length := hsn
          have hbl' : BLies wr sa b := hbl
          have hstep : (bs.take (j + 1)).flatten = (bs.take j).flatten ++ b := by
            rw [List.take_succ_eq_append_getElem hib, List.flatten_append, ← hb]
            simp
          have hp := HP.out (j + 1)
          rw [hstep, List.length_append, HR.out, ← hsn'] at hp
          have hff := HF.out
          have hsz := HG.out.size
          have HB := Lib.hid hbl'
          have HSN := Lib.hid hsn'
          have HST := Lib.hid hstep
          have hcc : wr.cell? ⟨g, o + j, none⟩ = some (.slice sa sn sc) := hc'
          have hrn : r + sn ≤ 1000000000 := by omega
          clear hb hsl hc hc' hsn hsn' hbl hbl' hstep hp hff hLw
          rcases Nat.eq_zero_or_pos sn with rfl | hpos
          · have hb0 : b = [] := List.eq_nil_of_length_eq_zero HSN.out.symm
            have hcap := HO.out.cap
            have hno : a' = none → c' = 0 := fun h => by
              by_cases h0 : 0 < c'
              · obtain ⟨g', e, _⟩ := Own.block HO.out h0
                rw [h] at e; cases e
              · omega
            have HRE := Lib.hid (fun W => run_app_empty (ty := 34) W a' sa r c' sc hcap.1 hcap.2 hno)
            clear hno hcap
            go_wp2_with (at_builtin; go_loud (refine Lib.wpList_append_run _ rfl _ _ _ _ rfl _ _ rfl rfl _ _ (HRE.out _) ?_))
            go_roundw
            case rel => exact ⟨j + 1, r, a', c', by omega, by go_num, rfl, by rw [HST.out, hb0, List.append_nil]; exact HO.out, HG.out⟩
            case measure => simp [intOf]; omega
          · obtain ⟨bb, boff, rfl⟩ := HB.out.addr (by rw [← HSN.out]; omega)
            go_wp2_with (at_builtin; refine wpList_app elB rfl (.tmp 31) (.tmp 32) rfl rfl HO.out ⟨bb, boff, none⟩ sn sc (b.map bval) rfl (by rw [List.length_map, ← HSN.out, Nat.mul_one]) HB.out.news (bval_one b) (by unfold maxLen; omega) (by omega) hsz (by omega) ?_; intro g cap w2 hown2 hgr; have HO2 := Lib.hid hown2; have HG2 := Lib.hid (hgr.grew.grown HO.out HG.out (Nat.le_refl _)); clear hown2 hgr)
            go_roundw
            case rel =>
              refine ⟨j + 1, r + sn, _, _, by omega, by go_num, rfl, ?_, HG2.out⟩
              rw [HST.out]
              unfold BOwn
              rw [List.map_append]
              exact HO2.out
            case measure => simp [intOf]; omega
        · obtain rfl : j = i := by omega
          rw [HTK.out] at HO
          go_wp2_with fail
          go_ret
          exact ⟨_, _, _, rfl, HO.out, HG.out⟩

set_option maxRecDepth 100000 in
theorem joinB_n (a : Option Addr) (c K : Nat) (L : List Sl) (bs : List (List UInt8)) (w : World) (hL : LLies w a L bs) (hK : bs.length = K) (hf : bs.flatten.length ≤ 1000000000) (hK2 : K ≤ 4000000000) :
    Calls Try.prog 34 #[.slice a K c] w fun e w' => ∃ a' m c', e = .returned (.slice a' m c') ∧ BOwn w' w.heap.size a' m c' bs.flatten ∧ w.grownBy w' none := by
  have HC := Lib.hid (concat_n a c K L bs w hL hK hf hK2)
  clear hL hK hf hK2
  go_enter Try.func34, Try.ntmps34
  go_wp2_with fail
  refine HC.out.mono ?_
  rintro e w1 ⟨a', m, c', rfl, ho, hg⟩
  have HO := Lib.hid ho
  have HG := Lib.hid hg
  clear ho hg
  go_wp2_with fail
  go_ret
  exact ⟨a', m, c', rfl, HO.out, HG.out⟩

end Go.Proofs.Ytblgdfamomlklaa
/- Lists that the call owns, whether they lie apart or not. -/
namespace Go.Proofs.Ytblgdfamomlklaa
open Go.RowKit
/-- lists that the call owns, whether they lie apart or not -/
structure Pcs (w : World) (base : Nat) (a : Option Addr) (n c : Nat) (bs : List (List UInt8)) (L : List Sl) : Prop where
  outer : SOwn w base a n c L
  len : L.length = bs.length
  inner : ∀ i (h : i < L.length) (h' : i < bs.length), BOwn w base (L[i]).a (L[i]).n (L[i]).c bs[i]
theorem Pcs.nil (w : World) (base : Nat) : Pcs w base none 0 0 [] [] := ⟨Own.nil _ _ _ _ _, rfl, fun i (h : i < 0) => absurd h (by omega)⟩
theorem Pcs.ch {w w' : World} {base : Nat} {a : Option Addr} {n c : Nat} {bs : List (List UInt8)} {L : List Sl} {S : Nat → Prop} (h : Pcs w base a n c bs L) (hc : Ch S w w') (hS : ∀ g, base ≤ g → ¬ S g) : Pcs w' base a n c bs L :=
  ⟨Own.ch h.outer hc (fun h0 g e => hS g (Own.inn h.outer ⟨h0, e⟩).1), h.len, fun i h1 h2 => Own.ch (h.inner i h1 h2) hc (fun h0 g e => hS g (Own.inn (h.inner i h1 h2) ⟨h0, e⟩).1)⟩
theorem Pcs.push {w1 w2 : World} {base base' : Nat} {a : Option Addr} {n c : Nat} {bs : List (List UInt8)} {L : List Sl} (h : Pcs w1 base a n c bs L) (hb : base ≤ base')
    {a' : Option Addr} {n' c' : Nat} {b : List UInt8} (ho : BOwn w1 base' a' n' c' b) {a2 : Option Addr} {c2 : Nat}
    (hs : Own w2 base 34 1 a2 (n + 1) c2 (L.map Sl.val ++ [.slice a' n' c'])) (hgr : GrewP w1 w2 a c a2 c2) : Pcs w2 base a2 (n + 1) c2 (bs ++ [b]) (L ++ [⟨a', n', c'⟩]) := by
  obtain ⟨h1, h2, h3⟩ := h
  have hin : ∀ i (h : i < L.length) (h' : i < bs.length), BOwn w2 base (L[i]).a (L[i]).n (L[i]).c bs[i] := fun i h h' => Own.grewOther (h3 i h h') h1 hgr (by decide)
  have hnew : BOwn w2 base a' n' c' b := Own.grewOther (ho.mono hb) h1 hgr (by decide)
  refine ⟨?_, by simp [h2], ?_⟩
  · unfold SOwn; rw [List.map_append]; exact hs
  · intro i hi hi'
    by_cases e : i < L.length
    · have e' : i < bs.length := by omega
      rw [List.getElem_append_left e, List.getElem_append_left e']
      exact hin i e e'
    · simp only [List.length_append, List.length_singleton] at hi
      obtain rfl : i = L.length := by omega
      have e2 : (L ++ [⟨a', n', c'⟩])[L.length] = (⟨a', n', c'⟩ : Sl) := by simp
      have e3 : (bs ++ [b])[L.length] = b := by simp [h2]
      rw [e2, e3]
      exact hnew
theorem Pcs.lies {w : World} {base : Nat} {a : Option Addr} {n c : Nat} {bs : List (List UInt8)} {L : List Sl} (h : Pcs w base a n c bs L) : LLies w a L bs := by
  refine ⟨?_, h.len, fun i h1 h2 => ⟨(h.inner i h1 h2).lies, (h.inner i h1 h2).len.symm⟩⟩
  intro k hk
  obtain ⟨g, e, _, _, hc, _⟩ := Own.cell h.outer k hk
  exact ⟨g, 0, e, by rw [Nat.zero_add, hc]⟩

end Go.Proofs.Ytblgdfamomlklaa
/- A list's middle handed on: b[lo:hi]. -/
namespace Go.Proofs.Ytblgdfamomlklaa
open Go.RowKit

def midA (a : Option Addr) (f c : Nat) : Option Addr := if c = f then a else a.map (·.add f)
theorem run_mid (w : World) (a : Option Addr) (N c f h : Nat) (h1 : f ≤ h) (h2 : h ≤ c) :
    (Instr.slice 34 (.slice a N c) (some (.int .i64 (f : Int))) (some (.int .i64 (h : Int))) none).run Try.prog w = .ok (.slice (midA a f c) (h - f) (c - f)) w := by
  have hu : Try.prog.underlying 34 = some (.slice (Try.prog.elem 34)) := by kernel_rfl
  have hz : (sizeOf (Try.prog.elem 34)).run Try.prog w = .ok 1 w := by
    obtain ⟨i, hi, hz, hs, hb⟩ := elB.info
    have he : Try.prog.elem 34 = 5 := by kernel_rfl
    rw [he]
    simp [sizeOf, typeInfo, hi, hs]
  rw [run_slice_lh (P := Try.prog) w _ _ _ _ hu _ _ _ _ (by omega) (by omega) (by omega)]
  simp [hz, sliced, midA]
theorem run_mid_op (w : World) (ev : Operand → Value) {o : Oper} (x lo hi : Operand) (ho : o.op = .slice 34 x (some lo) (some hi) none) (a : Option Addr) (N c f h : Nat) (hx : ev x = .slice a N c) (hl : ev lo = .int .i64 (f : Int)) (hh : ev hi = .int .i64 (h : Int)) (h1 : f ≤ h) (h2 : h ≤ c) :
    (execOp ev o).run Try.prog w = .ok (.value (.slice (midA a f c) (h - f) (c - f))) w := by
  have hu : Try.prog.underlying 34 = some (.slice (Try.prog.elem 34)) := by kernel_rfl
  unfold execOp
  simp only [ho, Option.map_some, Option.map_none]
  simp only [Sem.run_bind, run_sliceAt_slice (P := Try.prog) w _ _ _ _ _ hu, hx, hl, hh]
  rw [run_mid w a N c f h h1 h2]
  rfl
theorem mid_lies {w : World} {a : Option Addr} {l : List UInt8} (ha : BLies w a l) (f r c : Nat) (h : f + r ≤ l.length) (hc : l.length ≤ c) : BLies w (midA a f c) ((l.drop f).take r) := by
  rcases Nat.eq_zero_or_pos r with h0 | h0
  · subst h0
    rw [List.take_zero]
    exact BLies.nil _ _
  · obtain ⟨b, o, rfl⟩ := BLies.addr ha (by omega)
    have hne : ¬ c = f := by omega
    have e : midA (some ⟨b, o, none⟩) f c = some ⟨b, o + f, none⟩ := by
      unfold midA
      rw [if_neg hne]
      show some ((⟨b, o, none⟩ : Addr).add f) = _
      congr 1
      unfold Addr.add
      split <;> simp_all
    rw [e]
    exact (drop_lies ha f).take r
theorem mid_len {l : List UInt8} {f r : Nat} (h : f + r ≤ l.length) : ((l.drop f).take r).length = r := by rw [List.length_take, List.length_drop]; omega
theorem run_mid_op2 (w : World) (ev : Operand → Value) {o : Oper} (x lo hi : Operand) (ho : o.op = .slice 34 x (some lo) (some hi) none) (a : Option Addr) (N c f r : Nat) (hx : ev x = .slice a N c) (hl : ev lo = .int .i64 (f : Int)) (hh : ev hi = .int .i64 ((f + r : Nat) : Int)) (h2 : f + r ≤ c) :
    (execOp ev o).run Try.prog w = .ok (.value (.slice (midA a f c) r (c - f))) w := by
  rw [run_mid_op w ev x lo hi ho a N c f (f + r) hx hl hh (by omega) h2, Nat.add_sub_cancel_left]
theorem wpList_valp {P : Program} {ops : Array Oper} {Q : Exit → Act → World → Prop} {o : Oper} {rest : List Oper} {a : Act} {w w1 : World} {v : Value} (hg : o.guard = none) (hr : (execOp a.eval o).run P w = .ok (.value v) w1) (h : wpList P ops Q rest (a.put o.dst v) w1) : wpList P ops Q (o :: rest) a w := by
  refine wpList_plain hg fun K hK => ?_
  unfold Oper.wp
  rw [hr, Oper.upon_value]
  exact hK _ _ h
end Go.Proofs.Ytblgdfamomlklaa
/- A list of whole numbers that came in, read. -/
namespace Go.Proofs.Ytblgdfamomlklaa
open Go.ChangeShapes Go.WideShapes Go.ChangeAt Go.RowKit

/-- whole numbers as cells -/
def IV (zs : List Int) : List Value := zs.map (fun z => .int .i64 z)

theorem rd_ints {H : Type} {enc : TypeId × Value → H} {W : World} {base : Nat} {spare : Nat → Bool} {held : Bool} {fuel : Nat} {a : Option Addr} {len cap : Nat} {d : DataW H} {p : List MemPlace}
    (h : DataW.trod enc Try.prog W base spare held fuel 53 [.slice a len cap] = some (d, p)) : ∃ zs : List Int, zs.length = len ∧ Lies W a (IV zs) ∧ (∀ z ∈ zs, -9223372036854775808 ≤ z ∧ z ≤ 9223372036854775807) ∧ len + 1 ≤ Rows.uptoBulk d ∧ len ≤ cap ∧ cap ≤ maxLen := by
  rcases open_ints Try.underlying53 Try.underlying3 (by kernel_rfl) h with ⟨hcs, hx⟩ | ⟨x, len', cap', zs, hcs, _, hl, hm, hz, hx, hcell, hwz⟩
  · simp at hcs
    obtain ⟨rfl, rfl, rfl⟩ := hcs
    injection hx with hx _
    subst hx
    exact ⟨[], rfl, fun k hk => absurd hk (by simp [IV]), fun z hz => (by cases hz), by simp [Rows.uptoBulk], Nat.le_refl _, by unfold maxLen; omega⟩
  · simp at hcs
    obtain ⟨rfl, rfl, rfl⟩ := hcs
    injection hx with hx _
    subst hx
    have hzl : len ≤ zs.length := by rw [hz]; split <;> omega
    refine ⟨zs.take len, by simp; omega, ?_, fun z hz2 => i64_of_wf (hwz _ (List.mem_of_mem_take hz2)), ?_, hl, hm⟩
    · intro k hk
      have hk' : k < zs.length := by simp [IV] at hk; omega
      obtain ⟨b, off, rfl, hc⟩ := ints_at hcell (by omega)
      refine ⟨b, off, rfl, ?_⟩
      rw [hc k hk']
      have e : zs.getD k 0 = zs[k] := by simp [hk']
      rw [e]
      simp [IV]
    · have h1 := bulk_slice (H := H) (lits .i64 (zs.take len)) (lits .i64 (zs.drop len))
      have h2 := bulk_length (H := H) (lits .i64 (zs.take len))
      have h3 : (lits (H := H) .i64 (zs.take len)).length = len := by simp [lits]; omega
      omega

end Go.Proofs.Ytblgdfamomlklaa
