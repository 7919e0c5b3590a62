/- Helpers and contracts of the proofs over this seat: ApListsW, ApListsL, RegM, OctFramesL. Each states what a function of the program answers, or is plain Lean; its conditions stand in each statement. -/
import Derived.Test.YthemlaibjchjpaaPtAA
import Derived.Test.YthemlaibjchjpaaPtAB
import Derived.Test.YthemlaibjchjpaaPtAD
import Derived.Test.YthemlaibjchjpaaPtAE
set_option linter.unusedVariables false
/- strongroomkit.ApartLists. Printed by gens/aplistsw.py. -/
namespace Go.Proofs.Ythemlaibjchjpaa
open Go.RowKit

theorem u8_ofNat (k : Nat) : IntKind.u8.wrap (k : Int) = ((UInt8.ofNat k).toNat : Int) := by
  rw [UInt8.toNat_ofNat']
  show (k : Int) % 256 = _
  omega
theorem tdiv256 (x : Int) (n : Nat) (h : x = (n : Int)) : x.tdiv 256 = ((n / 256 : Nat) : Int) := by
  subst h
  rfl
theorem flat_at {α : Type} (Ls : List (List α)) (k : Nat) (hk : k < Ls.length) (i : Nat) (hi : i ≤ (Ls[k]).length) : ((Ls.take k).flatten ++ (Ls[k]).take i).length ≤ Ls.flatten.length := by
  have h : Ls = Ls.take k ++ Ls[k] :: Ls.drop (k + 1) := by rw [← List.drop_eq_getElem_cons hk, List.take_append_drop]
  have h2 := congrArg (fun l => (List.flatten l).length) h
  simp only [List.flatten_append, List.length_append, List.flatten_cons] at h2
  rw [List.length_append, List.length_take]
  omega

set_option maxRecDepth 100000 in
set_option maxHeartbeats 4000000 in
theorem apartLists_any (base : Nat) (als : Option Addr) (cls : Nat) (O : List Sl) (Ls : List (List Sl)) (w : World) (ho : OOwn w base als O.length cls O) (hll : Ls.length = O.length)
    (hi : ∀ j (hj : j < O.length) (hj' : j < Ls.length), SOwn w base (O[j]).a (O[j]).n (O[j]).c Ls[j]) (hb : ∀ j (hj : j < Ls.flatten.length), ∃ l, BOwn w base (Ls.flatten[j]).a (Ls.flatten[j]).n (Ls.flatten[j]).c l)
    (hd : Distinct O) (hdf : Distinct Ls.flatten) (hbase : base ≤ w.heap.size) (hK : O.length ≤ 1000) (hM : Ls.flatten.length ≤ 10000000) (hN : ∀ j (hj : j < Ls.flatten.length), (Ls.flatten[j]).n ≤ 100000000) :
    Calls Try.prog 58 #[.slice als O.length cls] w fun e w' => e = .returned (.bool true) ∧ Below base w w' := by
  have HO := Lib.hid ho
  have HLL := Lib.hid hll
  have HI := Lib.hid hi
  have HB := Lib.hid hb
  have HD := Lib.hid hd
  have HDF := Lib.hid hdf
  have HM := Lib.hid hM
  have HN := Lib.hid hN
  clear ho hll hi hb hd hdf hM hN
  go_enter Try.func58, Try.ntmps58
  go_wp2_with fail
  go_loopw [3, 4] (fun va vk wr => ∃ (k m : Nat) (aA : Option Addr) (cA : Nat), k ≤ O.length ∧ vk = .int .i64 k ∧ va = .slice aA m cA ∧ SOwn wr w.heap.size aA m cA (Ls.take k).flatten ∧ w.grownBy wr none) (fun _ vk _ => O.length - (intOf vk).toNat)
  case atStart => exact ⟨0, 0, none, 0, by omega, rfl, rfl, Own.nil _ _ _ _ _, World.grownBy.refl _ _⟩
  case round =>
    obtain ⟨k, m, aA, cA, hk, rfl, rfl, hown, hg⟩ := hrel
    have HOWN := Lib.hid hown
    have HG := Lib.hid hg
    clear hown hg
    by_cases hlt : k < O.length
    · obtain ⟨gl, rfl, _, _, hcs, _⟩ := Own.cell HO.out k (by simpa using hlt)
      have hcs' : w.cell? ⟨gl, k, none⟩ = some (.slice (O[k]).a (O[k]).n (O[k]).c) := by rw [hcs]; simp [Sl.val]
      have HCS : Hid (∀ u, w.grownBy u none → u.cell? ⟨gl, k, none⟩ = some (.slice (O[k]).a (O[k]).n (O[k]).c)) := Lib.hid (fun u hu => (World.cell?_of_block (hu.block gl (World.block_lt_of_cell? _ _ hcs') (by simp))).trans hcs')
      clear hcs hcs'
      have hkl : k < Ls.length := by rw [HLL.out]; exact hlt
      have hLo := HI.out k hlt hkl
      have hLn : (Ls[k]).length = (O[k]).n := SOwn.len hLo
      have HLO := Lib.hid hLo
      have HLN := Lib.hid hLn
      have hnb : (O[k]).n ≤ 10000000 := by
        have h4 := flat_at Ls k hkl (O[k]).n (by omega)
        rw [List.length_append, List.length_take] at h4
        have h5 := HM.out
        omega
      clear hLo hLn
      go_wp2_with fail
      go_loopw [3, 5] (fun va vi wr2 => ∃ (i m : Nat) (aA : Option Addr) (cA : Nat), i ≤ (O[k]).n ∧ vi = .int .i64 i ∧ va = .slice aA m cA ∧ SOwn wr2 w.heap.size aA m cA ((Ls.take k).flatten ++ (Ls[k]).take i) ∧ w.grownBy wr2 none) (fun _ vi _ => (O[k]).n - (intOf vi).toNat)
      case atStart => exact ⟨0, m, aA, cA, by omega, rfl, rfl, by simpa using HOWN.out, HG.out⟩
      case round =>
        obtain ⟨i, m, aA, cA, hi, rfl, rfl, hown, hg⟩ := hrel
        replace HOWN := Lib.hid hown
        replace HG := Lib.hid hg
        have hc1 := HCS.out _ hg
        have hmb : m ≤ 10000000 := by have h1 := SOwn.len hown; have h2 := flat_at Ls k hkl i (by rw [HLN.out]; exact hi); have h3 := HM.out; omega
        have hsz := hg.size
        clear hown hg
        by_cases hlt2 : i < (O[k]).n
        · have hil : i < (Ls[k]).length := by rw [HLN.out]; exact hlt2
          obtain ⟨s, hs⟩ : ∃ s, s = (Ls[k])[i] := ⟨_, rfl⟩
          obtain ⟨g, hga, _, _, hc2, _⟩ := Own.cell HLO.out i (by rw [List.length_map]; exact hil)
          have hc2' : wr.cell? ⟨g, i, none⟩ = some (.slice s.a s.n s.c) := (World.cell?_of_block (HG.out.block g (World.block_lt_of_cell? _ _ hc2) (by simp))).trans (by rw [hc2, hs]; simp [Sl.val])
          clear hc2
          rw [hga] at hc1
          have HGA := Lib.hid hga
          have HS := Lib.hid hs
          clear hga hs
          go_wp2_with (at_builtin; refine wpList_push elS rfl (.tmp 30) (.tmp 38) rfl rfl HOWN.out (.slice s.a s.n s.c) rfl rfl (by unfold maxLen; omega) (by omega) hsz ?_; intro g5 c5 w5 hown5 hgr5; have HO5 := Lib.hid hown5; have HGR5 := Lib.hid hgr5; clear hown5 hgr5)
          go_roundw
          case rel => exact ⟨i + 1, m + 1, _, _, by omega, by go_num, rfl, by
            have e : (Ls.take k).flatten ++ (Ls[k]).take (i + 1) = ((Ls.take k).flatten ++ (Ls[k]).take i) ++ [s] := by rw [List.take_succ_eq_append_getElem hil, HS.out, List.append_assoc]
            unfold SOwn
            rw [e, List.map_append]
            exact HO5.out, HGR5.out.grew.grown HOWN.out HG.out (Nat.le_refl _)⟩
          case measure => simp [intOf]; omega
        · obtain rfl : i = (O[k]).n := by omega
          go_wp2_with fail
          go_roundw
          case rel => exact ⟨k + 1, m, _, _, by omega, by go_num, rfl, by
            have h := HOWN.out
            have e2 : (Ls[k]).take (O[k]).n = Ls[k] := List.take_of_length_le (by rw [HLN.out]; exact Nat.le_refl _)
            rw [e2] at h
            have e : (Ls.take (k + 1)).flatten = (Ls.take k).flatten ++ Ls[k] := by rw [List.take_succ_eq_append_getElem hkl, List.flatten_append]; simp
            rw [e]
            exact h, HG.out⟩
          case measure => simp [intOf]; omega
    · obtain rfl : k = O.length := by omega
      have hfl : (Ls.take O.length).flatten = Ls.flatten := by rw [List.take_of_length_le (by rw [HLL.out]; exact Nat.le_refl _)]
      rw [hfl] at HOWN
      have hml : Ls.flatten.length = m := SOwn.len HOWN.out
      have hwz := HG.out.size
      have hst : TSt1 base aA cA Ls.flatten wr 0 0 wr := tst1_own (n := m) (Own.mono HOWN.out hbase) (fun j hj => by
        obtain ⟨l, h1⟩ := HB.out j hj
        exact ⟨l, h1.grown HG.out⟩)
      have HST := Lib.hid hst
      have HML := Lib.hid hml
      clear hst hml hfl
      go_wp2_with fail
      refine (apartT_n base aA cA m Ls.flatten wr HST.out (by omega) HDF.out HML.out (by have := HM.out; have := HML.out; omega) HN.out).mono ?_
      rintro e w2 ⟨rfl, hbel⟩
      have hs1 : LSt1 base als cls O w 0 0 w2 := ⟨Own.keptT (Own.grownNone HO.out HG.out) (by decide) hbel, fun j hj => by
        have hj' : j < Ls.length := by rw [HLL.out]; exact hj
        exact ⟨_, Own.keptT (Own.grownNone (HI.out j hj hj') HG.out) (by decide) hbel, fun m hm h => by rcases h with h | ⟨_, h⟩ <;> omega⟩, (((Below.refl base w).grown HG.out hbase (by simp)).trans hbel.toBelow), Nat.le_trans hbase (Nat.le_trans hwz hbel.toBelow.size)⟩
      have HS1 := Lib.hid hs1
      clear hs1 hbel HST HOWN HG hwz
      go_wp2_with fail
      go_loopw [6] (fun vk wr => ∃ k : Nat, k ≤ O.length ∧ vk = .int .i64 k ∧ LSt1 base als cls O w k 0 wr) (fun vk _ => O.length - (intOf vk).toNat)
      case atStart => exact ⟨0, by omega, rfl, HS1.out⟩
      case round =>
        obtain ⟨k, hk, rfl, hst⟩ := hrel
        have HST := Lib.hid hst
        clear hst HS1
        by_cases hlt : k < O.length
        · obtain ⟨gl, e1, _, _, hcs, _⟩ := Own.cell HST.out.outer k (by simpa using hlt)
          go_wp2_with fail
          go_loopw [7] (fun vi wr => ∃ i : Nat, i ≤ (O[k]).n ∧ vi = .int .i64 i ∧ LSt1 base als cls O w k i wr) (fun vi _ => (O[k]).n - (intOf vi).toNat)
          case atStart => exact ⟨0, by omega, rfl, HST.out⟩
          case round =>
            obtain ⟨i, hi, rfl, hst⟩ := hrel
            replace HST := Lib.hid hst
            clear hst hcs
            obtain ⟨gl2, e2, _, _, hcs, _⟩ := Own.cell HST.out.outer k (by simpa using hlt)
            rw [e1] at e2
            obtain rfl : gl = gl2 := by simpa using e2
            have hcs' : wr.cell? ⟨gl, k, none⟩ = some (.slice (O[k]).a (O[k]).n (O[k]).c) := by rw [hcs]; simp [Sl.val]
            clear hcs e2
            subst e1
            by_cases hlt2 : i < (O[k]).n
            · have hnb : (O[k]).n ≤ 10000000000 := by
                obtain ⟨xs, h1, _⟩ := HST.out.inner k hlt
                have h2 := (HI.out k hlt (by rw [HLL.out]; exact hlt))
                have h3 : (Ls[k]'(by rw [HLL.out]; exact hlt)).length = (O[k]).n := SOwn.len h2
                have h4 := flat_at Ls k (by rw [HLL.out]; exact hlt) (O[k]).n (by omega)
                rw [List.length_append, List.length_take] at h4
                have h5 := HM.out
                omega
              obtain ⟨x1, hx1⟩ : ∃ x1 : Int, x1 = ((UInt8.ofNat k).toNat : Int) := ⟨_, rfl⟩
              obtain ⟨x2, hx2⟩ : ∃ x2 : Int, x2 = ((UInt8.ofNat (i)).toNat : Int) := ⟨_, rfl⟩
              obtain ⟨x3, hx3⟩ : ∃ x3 : Int, x3 = ((UInt8.ofNat ((i) / 256)).toNat : Int) := ⟨_, rfl⟩
              obtain ⟨q, hq⟩ : ∃ q : Int, q = (((i) / 256 : Nat) : Int) := ⟨_, rfl⟩
              have hw1 : IntKind.u8.wrap (k : Int) = x1 := by rw [hx1]; exact u8_ofNat _
              have hw2 : IntKind.u8.wrap ((i : Int)) = x2 := by rw [hx2, ← u8_ofNat]
              have hw3 : IntKind.u8.wrap q = x3 := by rw [hx3, hq]; exact u8_ofNat _
              have hq1 : ((i : Int)).tdiv 256 = q := by rw [hq]; exact tdiv256 _ _ (by omega)
              have hq2 : ((i : Int)) / 256 = q := by rw [hq]; omega
              have hq3 : IntKind.i64.wrap q = q := IntWalk.i64_in _ (by omega)
              have hrb : rowB (mk3 k (i)) = #[.int .u8 x1, .int .u8 x2, .int .u8 x3] := by rw [hx1, hx2, hx3]; rfl
              clear hx1 hx2 hx3 hq
              have ha := World.grownBy_alloc wr (.cells #[.int .u8 x1, .int .u8 x2, .int .u8 x3] 5) none
              obtain ⟨w3, hw3⟩ : ∃ w3, w3 = wr.alloc (.cells #[.int .u8 x1, .int .u8 x2, .int .u8 x3] 5) := ⟨_, rfl⟩
              have hmk : Mk k i w3 (.slice (some ⟨wr.heap.size, 0, none⟩) 3 3) := ⟨_, rfl, by unfold BRow; rw [hrb, hw3]; exact heap_alloc_new wr _⟩
              rw [← hw3] at ha
              obtain ⟨g, hga, ⟨u, hu⟩, hf, hst'⟩ := (HST.out.grown ha).store HD.out hlt hlt2 hmk
              have HST' := Lib.hid hst'
              have HGA := Lib.hid hga
              rw [hw3] at hu hf
              rw [hga] at hcs'
              clear hst' hga hmk ha hrb
              go_wp2_with fail
              rw [← hw3]
              go_roundw
              case rel => exact ⟨i + 1, by omega, by go_num, HST'.out⟩
              case measure => simp [intOf]; omega
            · obtain rfl : i = (O[k]).n := by omega
              go_wp2_with fail
              go_roundw
              case rel => exact ⟨k + 1, by omega, by go_num, HST.out.next hlt rfl⟩
              case measure => simp [intOf]; omega
        · obtain rfl : k = O.length := by omega
          obtain ⟨wk, rfl⟩ : ∃ wk : World, wk = wr := ⟨_, rfl⟩
          have HS2 := Lib.hid (LSt2.start HST.out)
          clear HST
          go_wp2_with fail
          go_loopw [8, 9] (fun v vk wr => ∃ (k : Nat) (ags : Option Addr) (cgs : Nat) (G : List Sl), k ≤ O.length ∧ vk = .int .i64 k ∧ v = .slice ags k cgs ∧ LSt2 base als cls O w wk.heap.size k ags cgs G wr) (fun _ vk _ => O.length - (intOf vk).toNat)
          case atStart => exact ⟨0, none, 0, [], by omega, rfl, rfl, HS2.out⟩
          case round =>
            obtain ⟨k, ags, cgs, G, hk, rfl, rfl, hst⟩ := hrel
            have HST := Lib.hid hst
            clear hst
            by_cases hlt : k < O.length
            · obtain ⟨gl, e1, _, _, hcs, _⟩ := Own.cell HST.out.outer k (by simpa using hlt)
              have hcs' : wr.cell? ⟨gl, k, none⟩ = some (.slice (O[k]).a (O[k]).n (O[k]).c) := by rw [hcs]; simp [Sl.val]
              clear hcs
              obtain rfl := e1
              go_wp2_with fail
              obtain ⟨wo, rfl⟩ : ∃ wo : World, wo = wr := ⟨_, rfl⟩
              go_loopw [10, 11] (fun v vi wr => ∃ (i : Nat) (a : Option Addr) (c : Nat) (ys : List Value), i ≤ 70 ∧ vi = .int .i64 i ∧ v = .slice a ((O[k]).n + i) c ∧ LIn2 base O k hlt wo i a c ys wr) (fun _ vi _ => 70 - (intOf vi).toNat)
              case atStart =>
                obtain ⟨ys, hys⟩ := LIn2.start HST.out hlt
                exact ⟨0, _, _, ys, by omega, rfl, rfl, hys⟩
              case round =>
                obtain ⟨i, a, c, ys, hi, rfl, rfl, hin⟩ := hrel
                have HIN := Lib.hid hin
                clear hin hcs'
                have hsz : base ≤ wr.heap.size := Nat.le_trans HST.out.baseB (Nat.le_trans HST.out.size HIN.out.frame.size)
                have HSZ := Lib.hid hsz
                have hnb : (O[k]).n ≤ 10000000 := by
                  have h2 := (HI.out k hlt (by rw [HLL.out]; exact hlt))
                  have h3 : (Ls[k]'(by rw [HLL.out]; exact hlt)).length = (O[k]).n := SOwn.len h2
                  have h4 := flat_at Ls k (by rw [HLL.out]; exact hlt) (O[k]).n (by omega)
                  rw [List.length_append, List.length_take] at h4
                  have h5 := HM.out
                  omega
                by_cases hi70 : i < 70
                · obtain ⟨N, hNN⟩ : ∃ N, N = (O[k]).n := ⟨_, rfl⟩
                  have hO1 := HST.out.outerIn hlt HIN.out.frame
                  have hrow := HIN.out.row
                  rw [← hNN] at hnb hrow ⊢
                  have HOR := Lib.hid hrow
                  have HNN := Lib.hid hNN
                  have hcl : ∀ u, Ch (In a c) wr u → u.cell? ⟨gl, k, none⟩ = some (.slice (O[k]).a N (O[k]).c) := fun u hu => by
                    obtain ⟨gl2, e2, _, _, hcs, _⟩ := Own.cell hO1 k (by simpa using hlt)
                    obtain rfl : gl = gl2 := by simpa using e2
                    have h1 : wr.cell? ⟨gl, k, none⟩ = some (.slice (O[k]).a N (O[k]).c) := by rw [hcs, hNN]; simp [Sl.val]
                    exact (World.cell?_of_block (hu.block gl (World.block_lt_of_cell? _ _ h1) (fun h => by
                      obtain ⟨h3, h4⟩ := h
                      have h5 := HOR.out
                      rw [h4] at h5
                      have hcp : 0 < cls := by have := (Own.cap hO1).1; omega
                      exact own_ne hO1 h5 hcp h3 (by decide) rfl))).trans h1
                  have HC1 := Lib.hid hcl
                  clear hO1 hrow hcl hNN hsz
                  obtain ⟨x1, hx1⟩ : ∃ x1 : Int, x1 = ((UInt8.ofNat k).toNat : Int) := ⟨_, rfl⟩
                  obtain ⟨x2, hx2⟩ : ∃ x2 : Int, x2 = ((UInt8.ofNat (N + i)).toNat : Int) := ⟨_, rfl⟩
                  obtain ⟨x3, hx3⟩ : ∃ x3 : Int, x3 = ((UInt8.ofNat ((N + i) / 256)).toNat : Int) := ⟨_, rfl⟩
                  obtain ⟨q, hq⟩ : ∃ q : Int, q = (((N + i) / 256 : Nat) : Int) := ⟨_, rfl⟩
                  have hw1 : IntKind.u8.wrap (k : Int) = x1 := by rw [hx1]; exact u8_ofNat _
                  have hw2 : IntKind.u8.wrap ((N : Int) + (i : Int)) = x2 := by rw [hx2, ← u8_ofNat]; rfl
                  have hw3 : IntKind.u8.wrap q = x3 := by rw [hx3, hq]; exact u8_ofNat _
                  have hq1 : ((N : Int) + (i : Int)).tdiv 256 = q := by rw [hq]; exact tdiv256 _ _ (by omega)
                  have hq2 : ((N : Int) + (i : Int)) / 256 = q := by rw [hq]; omega
                  have hq3 : IntKind.i64.wrap q = q := IntWalk.i64_in _ (by omega)
                  have hrb : rowB (mk3 k (N + i)) = #[.int .u8 x1, .int .u8 x2, .int .u8 x3] := by rw [hx1, hx2, hx3]; rfl
                  clear hx1 hx2 hx3 hq
                  have hsum : IntKind.i64.wrap ((N : Int) + (i : Int)) = (N : Int) + (i : Int) := IntWalk.i64_in _ (by omega)
                  have HRB := Lib.hid hrb
                  clear hrb
                  go_upto_region 26 with fail
                  refine wp_regionX (AppS wr base 22 a (N + i) c ys) 23 (by kernel_rfl) ⟨Ch.ofNone (grownBy_drewN wr 1 none) _, HOR.out⟩ ?_
                  refine wpX_take 0 (v := .slice a (N + i) c) (oi := { dst := some 86, op := Op.move (Operand.tmp 10), type := 24, pos := "nested.go:89", after := #[], guard := none }) (oL := { dst := some 10, op := Op.assign (Operand.tmp 108), type := 24, pos := "nested.go:89", after := #[{ on := 22, ground := Ground.data }, { on := 22, ground := Ground.chain }, { on := 0, ground := Ground.phase }, { on := 1, ground := Ground.phase }, { on := 2, ground := Ground.phase }, { on := 3, ground := Ground.phase }, { on := 4, ground := Ground.phase }, { on := 5, ground := Ground.phase }, { on := 6, ground := Ground.phase }, { on := 7, ground := Ground.phase }, { on := 8, ground := Ground.phase }, { on := 9, ground := Ground.phase }, { on := 10, ground := Ground.phase }, { on := 11, ground := Ground.phase }, { on := 12, ground := Ground.phase }, { on := 13, ground := Ground.phase }, { on := 14, ground := Ground.phase }, { on := 15, ground := Ground.phase }, { on := 16, ground := Ground.phase }, { on := 17, ground := Ground.phase }, { on := 18, ground := Ground.phase }, { on := 19, ground := Ground.phase }, { on := 20, ground := Ground.phase }, { on := 21, ground := Ground.phase }, { on := 22, ground := Ground.phase }], guard := none }) (clo_app _ _ _ _ _ _ _) rfl rfl rfl (by kernel_rfl) (by kernel_rfl) (by kernel_rfl) (by kernel_rfl) (by kernel_rfl) (fun _ _ _ h => h) (YG.val (by rfl) (fun _ _ => rfl)) ?_
                  simp only [Act.put, List.setIfInBounds_toArray, List.set_cons_zero, List.set_cons_succ]
                  refine wpX_take 1 (v := .int .i64 (k : Int)) (oi := { dst := some 87, op := Op.move (Operand.tmp 9), type := 3, pos := "nested.go:89", after := #[], guard := none }) (oL := { dst := some 10, op := Op.assign (Operand.tmp 108), type := 24, pos := "nested.go:89", after := #[{ on := 22, ground := Ground.data }, { on := 22, ground := Ground.chain }, { on := 0, ground := Ground.phase }, { on := 1, ground := Ground.phase }, { on := 2, ground := Ground.phase }, { on := 3, ground := Ground.phase }, { on := 4, ground := Ground.phase }, { on := 5, ground := Ground.phase }, { on := 6, ground := Ground.phase }, { on := 7, ground := Ground.phase }, { on := 8, ground := Ground.phase }, { on := 9, ground := Ground.phase }, { on := 10, ground := Ground.phase }, { on := 11, ground := Ground.phase }, { on := 12, ground := Ground.phase }, { on := 13, ground := Ground.phase }, { on := 14, ground := Ground.phase }, { on := 15, ground := Ground.phase }, { on := 16, ground := Ground.phase }, { on := 17, ground := Ground.phase }, { on := 18, ground := Ground.phase }, { on := 19, ground := Ground.phase }, { on := 20, ground := Ground.phase }, { on := 21, ground := Ground.phase }, { on := 22, ground := Ground.phase }], guard := none }) (clo_app _ _ _ _ _ _ _) rfl rfl rfl (by kernel_rfl) (by kernel_rfl) (by kernel_rfl) (by kernel_rfl) (by kernel_rfl) (fun _ _ _ h => h) (YG.val (by rfl) (fun _ _ => rfl)) ?_
                  simp only [Act.put, List.setIfInBounds_toArray, List.set_cons_zero, List.set_cons_succ]
                  refine wpX_take 2 (v := .int .u8 x1) (oi := { dst := some 88, op := Op.convert 3 5 (Operand.tmp 87), type := 5, pos := "nested.go:89", after := #[{ on := 1, ground := Ground.data }], guard := none }) (oL := { dst := some 10, op := Op.assign (Operand.tmp 108), type := 24, pos := "nested.go:89", after := #[{ on := 22, ground := Ground.data }, { on := 22, ground := Ground.chain }, { on := 0, ground := Ground.phase }, { on := 1, ground := Ground.phase }, { on := 2, ground := Ground.phase }, { on := 3, ground := Ground.phase }, { on := 4, ground := Ground.phase }, { on := 5, ground := Ground.phase }, { on := 6, ground := Ground.phase }, { on := 7, ground := Ground.phase }, { on := 8, ground := Ground.phase }, { on := 9, ground := Ground.phase }, { on := 10, ground := Ground.phase }, { on := 11, ground := Ground.phase }, { on := 12, ground := Ground.phase }, { on := 13, ground := Ground.phase }, { on := 14, ground := Ground.phase }, { on := 15, ground := Ground.phase }, { on := 16, ground := Ground.phase }, { on := 17, ground := Ground.phase }, { on := 18, ground := Ground.phase }, { on := 19, ground := Ground.phase }, { on := 20, ground := Ground.phase }, { on := 21, ground := Ground.phase }, { on := 22, ground := Ground.phase }], guard := none }) (clo_app _ _ _ _ _ _ _) rfl rfl rfl (by kernel_rfl) (by kernel_rfl) (by kernel_rfl) (by kernel_rfl) (by kernel_rfl) (fun _ _ _ h => h) (YG.val (by rfl) (fun _ _ => by go_simp)) ?_
                  simp only [Act.put, List.setIfInBounds_toArray, List.set_cons_zero, List.set_cons_succ]
                  refine wpX_take 3 (v := .slice (some ⟨gl, 0, none⟩) O.length cls) (oi := { dst := some 89, op := Op.move (Operand.tmp 0), type := 94, pos := "nested.go:89", after := #[], guard := none }) (oL := { dst := some 10, op := Op.assign (Operand.tmp 108), type := 24, pos := "nested.go:89", after := #[{ on := 22, ground := Ground.data }, { on := 22, ground := Ground.chain }, { on := 0, ground := Ground.phase }, { on := 1, ground := Ground.phase }, { on := 2, ground := Ground.phase }, { on := 3, ground := Ground.phase }, { on := 4, ground := Ground.phase }, { on := 5, ground := Ground.phase }, { on := 6, ground := Ground.phase }, { on := 7, ground := Ground.phase }, { on := 8, ground := Ground.phase }, { on := 9, ground := Ground.phase }, { on := 10, ground := Ground.phase }, { on := 11, ground := Ground.phase }, { on := 12, ground := Ground.phase }, { on := 13, ground := Ground.phase }, { on := 14, ground := Ground.phase }, { on := 15, ground := Ground.phase }, { on := 16, ground := Ground.phase }, { on := 17, ground := Ground.phase }, { on := 18, ground := Ground.phase }, { on := 19, ground := Ground.phase }, { on := 20, ground := Ground.phase }, { on := 21, ground := Ground.phase }, { on := 22, ground := Ground.phase }], guard := none }) (clo_app _ _ _ _ _ _ _) rfl rfl rfl (by kernel_rfl) (by kernel_rfl) (by kernel_rfl) (by kernel_rfl) (by kernel_rfl) (fun _ _ _ h => h) (YG.val (by rfl) (fun _ _ => rfl)) ?_
                  simp only [Act.put, List.setIfInBounds_toArray, List.set_cons_zero, List.set_cons_succ]
                  refine wpX_take 4 (v := .int .i64 (k : Int)) (oi := { dst := some 90, op := Op.move (Operand.tmp 9), type := 3, pos := "nested.go:89", after := #[], guard := none }) (oL := { dst := some 10, op := Op.assign (Operand.tmp 108), type := 24, pos := "nested.go:89", after := #[{ on := 22, ground := Ground.data }, { on := 22, ground := Ground.chain }, { on := 0, ground := Ground.phase }, { on := 1, ground := Ground.phase }, { on := 2, ground := Ground.phase }, { on := 3, ground := Ground.phase }, { on := 4, ground := Ground.phase }, { on := 5, ground := Ground.phase }, { on := 6, ground := Ground.phase }, { on := 7, ground := Ground.phase }, { on := 8, ground := Ground.phase }, { on := 9, ground := Ground.phase }, { on := 10, ground := Ground.phase }, { on := 11, ground := Ground.phase }, { on := 12, ground := Ground.phase }, { on := 13, ground := Ground.phase }, { on := 14, ground := Ground.phase }, { on := 15, ground := Ground.phase }, { on := 16, ground := Ground.phase }, { on := 17, ground := Ground.phase }, { on := 18, ground := Ground.phase }, { on := 19, ground := Ground.phase }, { on := 20, ground := Ground.phase }, { on := 21, ground := Ground.phase }, { on := 22, ground := Ground.phase }], guard := none }) (clo_app _ _ _ _ _ _ _) rfl rfl rfl (by kernel_rfl) (by kernel_rfl) (by kernel_rfl) (by kernel_rfl) (by kernel_rfl) (fun _ _ _ h => h) (YG.val (by rfl) (fun _ _ => rfl)) ?_
                  simp only [Act.put, List.setIfInBounds_toArray, List.set_cons_zero, List.set_cons_succ]
                  refine wpX_take 5 (v := .pointer (some ⟨gl, k, none⟩)) (oi := { dst := some 91, op := Op.indexAddr 94 (Operand.tmp 89) (Operand.tmp 90), type := 0, pos := "nested.go:89", after := #[{ on := 3, ground := Ground.data }, { on := 4, ground := Ground.data }], guard := none }) (oL := { dst := some 10, op := Op.assign (Operand.tmp 108), type := 24, pos := "nested.go:89", after := #[{ on := 22, ground := Ground.data }, { on := 22, ground := Ground.chain }, { on := 0, ground := Ground.phase }, { on := 1, ground := Ground.phase }, { on := 2, ground := Ground.phase }, { on := 3, ground := Ground.phase }, { on := 4, ground := Ground.phase }, { on := 5, ground := Ground.phase }, { on := 6, ground := Ground.phase }, { on := 7, ground := Ground.phase }, { on := 8, ground := Ground.phase }, { on := 9, ground := Ground.phase }, { on := 10, ground := Ground.phase }, { on := 11, ground := Ground.phase }, { on := 12, ground := Ground.phase }, { on := 13, ground := Ground.phase }, { on := 14, ground := Ground.phase }, { on := 15, ground := Ground.phase }, { on := 16, ground := Ground.phase }, { on := 17, ground := Ground.phase }, { on := 18, ground := Ground.phase }, { on := 19, ground := Ground.phase }, { on := 20, ground := Ground.phase }, { on := 21, ground := Ground.phase }, { on := 22, ground := Ground.phase }], guard := none }) (clo_app _ _ _ _ _ _ _) rfl rfl rfl (by kernel_rfl) (by kernel_rfl) (by kernel_rfl) (by kernel_rfl) (by kernel_rfl) (fun _ _ _ h => h) (YG.val (by rfl) (fun _ _ => by go_simp)) ?_
                  simp only [Act.put, List.setIfInBounds_toArray, List.set_cons_zero, List.set_cons_succ]
                  refine wpX_take 6 (v := .slice (O[k]).a N (O[k]).c) (oi := { dst := some 92, op := Op.load 24 (Operand.tmp 91), type := 24, pos := "nested.go:89", after := #[{ on := 5, ground := Ground.data }], guard := none }) (oL := { dst := some 10, op := Op.assign (Operand.tmp 108), type := 24, pos := "nested.go:89", after := #[{ on := 22, ground := Ground.data }, { on := 22, ground := Ground.chain }, { on := 0, ground := Ground.phase }, { on := 1, ground := Ground.phase }, { on := 2, ground := Ground.phase }, { on := 3, ground := Ground.phase }, { on := 4, ground := Ground.phase }, { on := 5, ground := Ground.phase }, { on := 6, ground := Ground.phase }, { on := 7, ground := Ground.phase }, { on := 8, ground := Ground.phase }, { on := 9, ground := Ground.phase }, { on := 10, ground := Ground.phase }, { on := 11, ground := Ground.phase }, { on := 12, ground := Ground.phase }, { on := 13, ground := Ground.phase }, { on := 14, ground := Ground.phase }, { on := 15, ground := Ground.phase }, { on := 16, ground := Ground.phase }, { on := 17, ground := Ground.phase }, { on := 18, ground := Ground.phase }, { on := 19, ground := Ground.phase }, { on := 20, ground := Ground.phase }, { on := 21, ground := Ground.phase }, { on := 22, ground := Ground.phase }], guard := none }) (clo_app _ _ _ _ _ _ _) rfl rfl rfl (by kernel_rfl) (by kernel_rfl) (by kernel_rfl) (by kernel_rfl) (by kernel_rfl) (fun _ _ _ h => h) (YG.val (by rfl) (fun u hu => by have hc1 := HC1.out u hu.1; go_simp)) ?_
                  simp only [Act.put, List.setIfInBounds_toArray, List.set_cons_zero, List.set_cons_succ]
                  refine wpX_take 7 (v := .int .i64 (N : Int)) (oi := { dst := some 93, op := Op.call { callee := Callee.builtin Builtin.len, args := #[Operand.tmp 92], argTypes := #[24] }, type := 3, pos := "nested.go:89", after := #[{ on := 6, ground := Ground.data }], guard := none }) (oL := { dst := some 10, op := Op.assign (Operand.tmp 108), type := 24, pos := "nested.go:89", after := #[{ on := 22, ground := Ground.data }, { on := 22, ground := Ground.chain }, { on := 0, ground := Ground.phase }, { on := 1, ground := Ground.phase }, { on := 2, ground := Ground.phase }, { on := 3, ground := Ground.phase }, { on := 4, ground := Ground.phase }, { on := 5, ground := Ground.phase }, { on := 6, ground := Ground.phase }, { on := 7, ground := Ground.phase }, { on := 8, ground := Ground.phase }, { on := 9, ground := Ground.phase }, { on := 10, ground := Ground.phase }, { on := 11, ground := Ground.phase }, { on := 12, ground := Ground.phase }, { on := 13, ground := Ground.phase }, { on := 14, ground := Ground.phase }, { on := 15, ground := Ground.phase }, { on := 16, ground := Ground.phase }, { on := 17, ground := Ground.phase }, { on := 18, ground := Ground.phase }, { on := 19, ground := Ground.phase }, { on := 20, ground := Ground.phase }, { on := 21, ground := Ground.phase }, { on := 22, ground := Ground.phase }], guard := none }) (clo_app _ _ _ _ _ _ _) rfl rfl rfl (by kernel_rfl) (by kernel_rfl) (by kernel_rfl) (by kernel_rfl) (by kernel_rfl) (fun _ _ _ h => h) (YG.val (by rfl) (fun _ _ => by go_simp)) ?_
                  simp only [Act.put, List.setIfInBounds_toArray, List.set_cons_zero, List.set_cons_succ]
                  refine wpX_take 8 (v := .int .i64 (i : Int)) (oi := { dst := some 94, op := Op.move (Operand.tmp 11), type := 3, pos := "nested.go:89", after := #[], guard := none }) (oL := { dst := some 10, op := Op.assign (Operand.tmp 108), type := 24, pos := "nested.go:89", after := #[{ on := 22, ground := Ground.data }, { on := 22, ground := Ground.chain }, { on := 0, ground := Ground.phase }, { on := 1, ground := Ground.phase }, { on := 2, ground := Ground.phase }, { on := 3, ground := Ground.phase }, { on := 4, ground := Ground.phase }, { on := 5, ground := Ground.phase }, { on := 6, ground := Ground.phase }, { on := 7, ground := Ground.phase }, { on := 8, ground := Ground.phase }, { on := 9, ground := Ground.phase }, { on := 10, ground := Ground.phase }, { on := 11, ground := Ground.phase }, { on := 12, ground := Ground.phase }, { on := 13, ground := Ground.phase }, { on := 14, ground := Ground.phase }, { on := 15, ground := Ground.phase }, { on := 16, ground := Ground.phase }, { on := 17, ground := Ground.phase }, { on := 18, ground := Ground.phase }, { on := 19, ground := Ground.phase }, { on := 20, ground := Ground.phase }, { on := 21, ground := Ground.phase }, { on := 22, ground := Ground.phase }], guard := none }) (clo_app _ _ _ _ _ _ _) rfl rfl rfl (by kernel_rfl) (by kernel_rfl) (by kernel_rfl) (by kernel_rfl) (by kernel_rfl) (fun _ _ _ h => h) (YG.val (by rfl) (fun _ _ => rfl)) ?_
                  simp only [Act.put, List.setIfInBounds_toArray, List.set_cons_zero, List.set_cons_succ]
                  refine wpX_take 9 (v := .int .i64 ((N : Int) + (i : Int))) (oi := { dst := some 95, op := Op.binOp BinOp.add 3 (Operand.tmp 93) (Operand.tmp 94) 3, type := 3, pos := "nested.go:89", after := #[{ on := 7, ground := Ground.data }, { on := 8, ground := Ground.data }], guard := none }) (oL := { dst := some 10, op := Op.assign (Operand.tmp 108), type := 24, pos := "nested.go:89", after := #[{ on := 22, ground := Ground.data }, { on := 22, ground := Ground.chain }, { on := 0, ground := Ground.phase }, { on := 1, ground := Ground.phase }, { on := 2, ground := Ground.phase }, { on := 3, ground := Ground.phase }, { on := 4, ground := Ground.phase }, { on := 5, ground := Ground.phase }, { on := 6, ground := Ground.phase }, { on := 7, ground := Ground.phase }, { on := 8, ground := Ground.phase }, { on := 9, ground := Ground.phase }, { on := 10, ground := Ground.phase }, { on := 11, ground := Ground.phase }, { on := 12, ground := Ground.phase }, { on := 13, ground := Ground.phase }, { on := 14, ground := Ground.phase }, { on := 15, ground := Ground.phase }, { on := 16, ground := Ground.phase }, { on := 17, ground := Ground.phase }, { on := 18, ground := Ground.phase }, { on := 19, ground := Ground.phase }, { on := 20, ground := Ground.phase }, { on := 21, ground := Ground.phase }, { on := 22, ground := Ground.phase }], guard := none }) (clo_app _ _ _ _ _ _ _) rfl rfl rfl (by kernel_rfl) (by kernel_rfl) (by kernel_rfl) (by kernel_rfl) (by kernel_rfl) (fun _ _ _ h => h) (YG.val (by rfl) (fun _ _ => by go_simp)) ?_
                  simp only [Act.put, List.setIfInBounds_toArray, List.set_cons_zero, List.set_cons_succ]
                  refine wpX_take 10 (v := .int .u8 x2) (oi := { dst := some 96, op := Op.convert 3 5 (Operand.tmp 95), type := 5, pos := "nested.go:89", after := #[{ on := 9, ground := Ground.data }], guard := none }) (oL := { dst := some 10, op := Op.assign (Operand.tmp 108), type := 24, pos := "nested.go:89", after := #[{ on := 22, ground := Ground.data }, { on := 22, ground := Ground.chain }, { on := 0, ground := Ground.phase }, { on := 1, ground := Ground.phase }, { on := 2, ground := Ground.phase }, { on := 3, ground := Ground.phase }, { on := 4, ground := Ground.phase }, { on := 5, ground := Ground.phase }, { on := 6, ground := Ground.phase }, { on := 7, ground := Ground.phase }, { on := 8, ground := Ground.phase }, { on := 9, ground := Ground.phase }, { on := 10, ground := Ground.phase }, { on := 11, ground := Ground.phase }, { on := 12, ground := Ground.phase }, { on := 13, ground := Ground.phase }, { on := 14, ground := Ground.phase }, { on := 15, ground := Ground.phase }, { on := 16, ground := Ground.phase }, { on := 17, ground := Ground.phase }, { on := 18, ground := Ground.phase }, { on := 19, ground := Ground.phase }, { on := 20, ground := Ground.phase }, { on := 21, ground := Ground.phase }, { on := 22, ground := Ground.phase }], guard := none }) (clo_app _ _ _ _ _ _ _) rfl rfl rfl (by kernel_rfl) (by kernel_rfl) (by kernel_rfl) (by kernel_rfl) (by kernel_rfl) (fun _ _ _ h => h) (YG.val (by rfl) (fun _ _ => by go_simp)) ?_
                  simp only [Act.put, List.setIfInBounds_toArray, List.set_cons_zero, List.set_cons_succ]
                  refine wpX_take 11 (v := .slice (some ⟨gl, 0, none⟩) O.length cls) (oi := { dst := some 97, op := Op.move (Operand.tmp 0), type := 94, pos := "nested.go:89", after := #[], guard := none }) (oL := { dst := some 10, op := Op.assign (Operand.tmp 108), type := 24, pos := "nested.go:89", after := #[{ on := 22, ground := Ground.data }, { on := 22, ground := Ground.chain }, { on := 0, ground := Ground.phase }, { on := 1, ground := Ground.phase }, { on := 2, ground := Ground.phase }, { on := 3, ground := Ground.phase }, { on := 4, ground := Ground.phase }, { on := 5, ground := Ground.phase }, { on := 6, ground := Ground.phase }, { on := 7, ground := Ground.phase }, { on := 8, ground := Ground.phase }, { on := 9, ground := Ground.phase }, { on := 10, ground := Ground.phase }, { on := 11, ground := Ground.phase }, { on := 12, ground := Ground.phase }, { on := 13, ground := Ground.phase }, { on := 14, ground := Ground.phase }, { on := 15, ground := Ground.phase }, { on := 16, ground := Ground.phase }, { on := 17, ground := Ground.phase }, { on := 18, ground := Ground.phase }, { on := 19, ground := Ground.phase }, { on := 20, ground := Ground.phase }, { on := 21, ground := Ground.phase }, { on := 22, ground := Ground.phase }], guard := none }) (clo_app _ _ _ _ _ _ _) rfl rfl rfl (by kernel_rfl) (by kernel_rfl) (by kernel_rfl) (by kernel_rfl) (by kernel_rfl) (fun _ _ _ h => h) (YG.val (by rfl) (fun _ _ => rfl)) ?_
                  simp only [Act.put, List.setIfInBounds_toArray, List.set_cons_zero, List.set_cons_succ]
                  refine wpX_take 12 (v := .int .i64 (k : Int)) (oi := { dst := some 98, op := Op.move (Operand.tmp 9), type := 3, pos := "nested.go:89", after := #[], guard := none }) (oL := { dst := some 10, op := Op.assign (Operand.tmp 108), type := 24, pos := "nested.go:89", after := #[{ on := 22, ground := Ground.data }, { on := 22, ground := Ground.chain }, { on := 0, ground := Ground.phase }, { on := 1, ground := Ground.phase }, { on := 2, ground := Ground.phase }, { on := 3, ground := Ground.phase }, { on := 4, ground := Ground.phase }, { on := 5, ground := Ground.phase }, { on := 6, ground := Ground.phase }, { on := 7, ground := Ground.phase }, { on := 8, ground := Ground.phase }, { on := 9, ground := Ground.phase }, { on := 10, ground := Ground.phase }, { on := 11, ground := Ground.phase }, { on := 12, ground := Ground.phase }, { on := 13, ground := Ground.phase }, { on := 14, ground := Ground.phase }, { on := 15, ground := Ground.phase }, { on := 16, ground := Ground.phase }, { on := 17, ground := Ground.phase }, { on := 18, ground := Ground.phase }, { on := 19, ground := Ground.phase }, { on := 20, ground := Ground.phase }, { on := 21, ground := Ground.phase }, { on := 22, ground := Ground.phase }], guard := none }) (clo_app _ _ _ _ _ _ _) rfl rfl rfl (by kernel_rfl) (by kernel_rfl) (by kernel_rfl) (by kernel_rfl) (by kernel_rfl) (fun _ _ _ h => h) (YG.val (by rfl) (fun _ _ => rfl)) ?_
                  simp only [Act.put, List.setIfInBounds_toArray, List.set_cons_zero, List.set_cons_succ]
                  refine wpX_take 13 (v := .pointer (some ⟨gl, k, none⟩)) (oi := { dst := some 99, op := Op.indexAddr 94 (Operand.tmp 97) (Operand.tmp 98), type := 0, pos := "nested.go:89", after := #[{ on := 11, ground := Ground.data }, { on := 12, ground := Ground.data }], guard := none }) (oL := { dst := some 10, op := Op.assign (Operand.tmp 108), type := 24, pos := "nested.go:89", after := #[{ on := 22, ground := Ground.data }, { on := 22, ground := Ground.chain }, { on := 0, ground := Ground.phase }, { on := 1, ground := Ground.phase }, { on := 2, ground := Ground.phase }, { on := 3, ground := Ground.phase }, { on := 4, ground := Ground.phase }, { on := 5, ground := Ground.phase }, { on := 6, ground := Ground.phase }, { on := 7, ground := Ground.phase }, { on := 8, ground := Ground.phase }, { on := 9, ground := Ground.phase }, { on := 10, ground := Ground.phase }, { on := 11, ground := Ground.phase }, { on := 12, ground := Ground.phase }, { on := 13, ground := Ground.phase }, { on := 14, ground := Ground.phase }, { on := 15, ground := Ground.phase }, { on := 16, ground := Ground.phase }, { on := 17, ground := Ground.phase }, { on := 18, ground := Ground.phase }, { on := 19, ground := Ground.phase }, { on := 20, ground := Ground.phase }, { on := 21, ground := Ground.phase }, { on := 22, ground := Ground.phase }], guard := none }) (clo_app _ _ _ _ _ _ _) rfl rfl rfl (by kernel_rfl) (by kernel_rfl) (by kernel_rfl) (by kernel_rfl) (by kernel_rfl) (fun _ _ _ h => h) (YG.val (by rfl) (fun _ _ => by go_simp)) ?_
                  simp only [Act.put, List.setIfInBounds_toArray, List.set_cons_zero, List.set_cons_succ]
                  refine wpX_take 14 (v := .slice (O[k]).a N (O[k]).c) (oi := { dst := some 100, op := Op.load 24 (Operand.tmp 99), type := 24, pos := "nested.go:89", after := #[{ on := 13, ground := Ground.data }], guard := none }) (oL := { dst := some 10, op := Op.assign (Operand.tmp 108), type := 24, pos := "nested.go:89", after := #[{ on := 22, ground := Ground.data }, { on := 22, ground := Ground.chain }, { on := 0, ground := Ground.phase }, { on := 1, ground := Ground.phase }, { on := 2, ground := Ground.phase }, { on := 3, ground := Ground.phase }, { on := 4, ground := Ground.phase }, { on := 5, ground := Ground.phase }, { on := 6, ground := Ground.phase }, { on := 7, ground := Ground.phase }, { on := 8, ground := Ground.phase }, { on := 9, ground := Ground.phase }, { on := 10, ground := Ground.phase }, { on := 11, ground := Ground.phase }, { on := 12, ground := Ground.phase }, { on := 13, ground := Ground.phase }, { on := 14, ground := Ground.phase }, { on := 15, ground := Ground.phase }, { on := 16, ground := Ground.phase }, { on := 17, ground := Ground.phase }, { on := 18, ground := Ground.phase }, { on := 19, ground := Ground.phase }, { on := 20, ground := Ground.phase }, { on := 21, ground := Ground.phase }, { on := 22, ground := Ground.phase }], guard := none }) (clo_app _ _ _ _ _ _ _) rfl rfl rfl (by kernel_rfl) (by kernel_rfl) (by kernel_rfl) (by kernel_rfl) (by kernel_rfl) (fun _ _ _ h => h) (YG.val (by rfl) (fun u hu => by have hc1 := HC1.out u hu.1; go_simp)) ?_
                  simp only [Act.put, List.setIfInBounds_toArray, List.set_cons_zero, List.set_cons_succ]
                  refine wpX_take 15 (v := .int .i64 (N : Int)) (oi := { dst := some 101, op := Op.call { callee := Callee.builtin Builtin.len, args := #[Operand.tmp 100], argTypes := #[24] }, type := 3, pos := "nested.go:89", after := #[{ on := 14, ground := Ground.data }], guard := none }) (oL := { dst := some 10, op := Op.assign (Operand.tmp 108), type := 24, pos := "nested.go:89", after := #[{ on := 22, ground := Ground.data }, { on := 22, ground := Ground.chain }, { on := 0, ground := Ground.phase }, { on := 1, ground := Ground.phase }, { on := 2, ground := Ground.phase }, { on := 3, ground := Ground.phase }, { on := 4, ground := Ground.phase }, { on := 5, ground := Ground.phase }, { on := 6, ground := Ground.phase }, { on := 7, ground := Ground.phase }, { on := 8, ground := Ground.phase }, { on := 9, ground := Ground.phase }, { on := 10, ground := Ground.phase }, { on := 11, ground := Ground.phase }, { on := 12, ground := Ground.phase }, { on := 13, ground := Ground.phase }, { on := 14, ground := Ground.phase }, { on := 15, ground := Ground.phase }, { on := 16, ground := Ground.phase }, { on := 17, ground := Ground.phase }, { on := 18, ground := Ground.phase }, { on := 19, ground := Ground.phase }, { on := 20, ground := Ground.phase }, { on := 21, ground := Ground.phase }, { on := 22, ground := Ground.phase }], guard := none }) (clo_app _ _ _ _ _ _ _) rfl rfl rfl (by kernel_rfl) (by kernel_rfl) (by kernel_rfl) (by kernel_rfl) (by kernel_rfl) (fun _ _ _ h => h) (YG.val (by rfl) (fun _ _ => by go_simp)) ?_
                  simp only [Act.put, List.setIfInBounds_toArray, List.set_cons_zero, List.set_cons_succ]
                  refine wpX_take 16 (v := .int .i64 (i : Int)) (oi := { dst := some 102, op := Op.move (Operand.tmp 11), type := 3, pos := "nested.go:89", after := #[], guard := none }) (oL := { dst := some 10, op := Op.assign (Operand.tmp 108), type := 24, pos := "nested.go:89", after := #[{ on := 22, ground := Ground.data }, { on := 22, ground := Ground.chain }, { on := 0, ground := Ground.phase }, { on := 1, ground := Ground.phase }, { on := 2, ground := Ground.phase }, { on := 3, ground := Ground.phase }, { on := 4, ground := Ground.phase }, { on := 5, ground := Ground.phase }, { on := 6, ground := Ground.phase }, { on := 7, ground := Ground.phase }, { on := 8, ground := Ground.phase }, { on := 9, ground := Ground.phase }, { on := 10, ground := Ground.phase }, { on := 11, ground := Ground.phase }, { on := 12, ground := Ground.phase }, { on := 13, ground := Ground.phase }, { on := 14, ground := Ground.phase }, { on := 15, ground := Ground.phase }, { on := 16, ground := Ground.phase }, { on := 17, ground := Ground.phase }, { on := 18, ground := Ground.phase }, { on := 19, ground := Ground.phase }, { on := 20, ground := Ground.phase }, { on := 21, ground := Ground.phase }, { on := 22, ground := Ground.phase }], guard := none }) (clo_app _ _ _ _ _ _ _) rfl rfl rfl (by kernel_rfl) (by kernel_rfl) (by kernel_rfl) (by kernel_rfl) (by kernel_rfl) (fun _ _ _ h => h) (YG.val (by rfl) (fun _ _ => rfl)) ?_
                  simp only [Act.put, List.setIfInBounds_toArray, List.set_cons_zero, List.set_cons_succ]
                  refine wpX_take 17 (v := .int .i64 ((N : Int) + (i : Int))) (oi := { dst := some 103, op := Op.binOp BinOp.add 3 (Operand.tmp 101) (Operand.tmp 102) 3, type := 3, pos := "nested.go:89", after := #[{ on := 15, ground := Ground.data }, { on := 16, ground := Ground.data }], guard := none }) (oL := { dst := some 10, op := Op.assign (Operand.tmp 108), type := 24, pos := "nested.go:89", after := #[{ on := 22, ground := Ground.data }, { on := 22, ground := Ground.chain }, { on := 0, ground := Ground.phase }, { on := 1, ground := Ground.phase }, { on := 2, ground := Ground.phase }, { on := 3, ground := Ground.phase }, { on := 4, ground := Ground.phase }, { on := 5, ground := Ground.phase }, { on := 6, ground := Ground.phase }, { on := 7, ground := Ground.phase }, { on := 8, ground := Ground.phase }, { on := 9, ground := Ground.phase }, { on := 10, ground := Ground.phase }, { on := 11, ground := Ground.phase }, { on := 12, ground := Ground.phase }, { on := 13, ground := Ground.phase }, { on := 14, ground := Ground.phase }, { on := 15, ground := Ground.phase }, { on := 16, ground := Ground.phase }, { on := 17, ground := Ground.phase }, { on := 18, ground := Ground.phase }, { on := 19, ground := Ground.phase }, { on := 20, ground := Ground.phase }, { on := 21, ground := Ground.phase }, { on := 22, ground := Ground.phase }], guard := none }) (clo_app _ _ _ _ _ _ _) rfl rfl rfl (by kernel_rfl) (by kernel_rfl) (by kernel_rfl) (by kernel_rfl) (by kernel_rfl) (fun _ _ _ h => h) (YG.val (by rfl) (fun _ _ => by go_simp)) ?_
                  simp only [Act.put, List.setIfInBounds_toArray, List.set_cons_zero, List.set_cons_succ]
                  refine wpX_take 18 (v := .int .i64 q) (oi := { dst := some 104, op := Op.binOp BinOp.quo 3 (Operand.tmp 103) (Operand.const (Value.int IntKind.i64 256)) 3, type := 3, pos := "nested.go:89", after := #[{ on := 17, ground := Ground.data }], guard := none }) (oL := { dst := some 10, op := Op.assign (Operand.tmp 108), type := 24, pos := "nested.go:89", after := #[{ on := 22, ground := Ground.data }, { on := 22, ground := Ground.chain }, { on := 0, ground := Ground.phase }, { on := 1, ground := Ground.phase }, { on := 2, ground := Ground.phase }, { on := 3, ground := Ground.phase }, { on := 4, ground := Ground.phase }, { on := 5, ground := Ground.phase }, { on := 6, ground := Ground.phase }, { on := 7, ground := Ground.phase }, { on := 8, ground := Ground.phase }, { on := 9, ground := Ground.phase }, { on := 10, ground := Ground.phase }, { on := 11, ground := Ground.phase }, { on := 12, ground := Ground.phase }, { on := 13, ground := Ground.phase }, { on := 14, ground := Ground.phase }, { on := 15, ground := Ground.phase }, { on := 16, ground := Ground.phase }, { on := 17, ground := Ground.phase }, { on := 18, ground := Ground.phase }, { on := 19, ground := Ground.phase }, { on := 20, ground := Ground.phase }, { on := 21, ground := Ground.phase }, { on := 22, ground := Ground.phase }], guard := none }) (clo_app _ _ _ _ _ _ _) rfl rfl rfl (by kernel_rfl) (by kernel_rfl) (by kernel_rfl) (by kernel_rfl) (by kernel_rfl) (fun _ _ _ h => h) (YG.val (by rfl) (fun _ _ => by go_simp)) ?_
                  simp only [Act.put, List.setIfInBounds_toArray, List.set_cons_zero, List.set_cons_succ]
                  refine wpX_take 19 (v := .int .u8 x3) (oi := { dst := some 105, op := Op.convert 3 5 (Operand.tmp 104), type := 5, pos := "nested.go:89", after := #[{ on := 18, ground := Ground.data }], guard := none }) (oL := { dst := some 10, op := Op.assign (Operand.tmp 108), type := 24, pos := "nested.go:89", after := #[{ on := 22, ground := Ground.data }, { on := 22, ground := Ground.chain }, { on := 0, ground := Ground.phase }, { on := 1, ground := Ground.phase }, { on := 2, ground := Ground.phase }, { on := 3, ground := Ground.phase }, { on := 4, ground := Ground.phase }, { on := 5, ground := Ground.phase }, { on := 6, ground := Ground.phase }, { on := 7, ground := Ground.phase }, { on := 8, ground := Ground.phase }, { on := 9, ground := Ground.phase }, { on := 10, ground := Ground.phase }, { on := 11, ground := Ground.phase }, { on := 12, ground := Ground.phase }, { on := 13, ground := Ground.phase }, { on := 14, ground := Ground.phase }, { on := 15, ground := Ground.phase }, { on := 16, ground := Ground.phase }, { on := 17, ground := Ground.phase }, { on := 18, ground := Ground.phase }, { on := 19, ground := Ground.phase }, { on := 20, ground := Ground.phase }, { on := 21, ground := Ground.phase }, { on := 22, ground := Ground.phase }], guard := none }) (clo_app _ _ _ _ _ _ _) rfl rfl rfl (by kernel_rfl) (by kernel_rfl) (by kernel_rfl) (by kernel_rfl) (by kernel_rfl) (fun _ _ _ h => h) (YG.val (by rfl) (fun _ _ => by go_simp)) ?_
                  simp only [Act.put, List.setIfInBounds_toArray, List.set_cons_zero, List.set_cons_succ]
                  refine wpX_step 20 (o := { dst := some 106, op := Op.buildSlice 22 3 #[(0, Operand.tmp 88), (1, Operand.tmp 96), (2, Operand.tmp 105)], type := 22, pos := "nested.go:89", after := #[{ on := 2, ground := Ground.data }, { on := 10, ground := Ground.data }, { on := 19, ground := Ground.data }], guard := none }) rfl rfl (by kernel_rfl) (by rfl) (fun u1 hS1 K hK => ?_)
                  have HK := Lib.hid hK
                  have HS1 := Lib.hid hS1
                  clear hK hS1
                  have ha1 := World.grownBy_alloc u1 (.cells #[.int .u8 x1, .int .u8 x2, .int .u8 x3] 5) none
                  refine wp_val_op (v := .slice (some ⟨u1.heap.size, 0, none⟩) 3 3) (w1 := u1.alloc (.cells #[.int .u8 x1, .int .u8 x2, .int .u8 x3] 5)) (by go_simp) ?_
                  have hrw1 : Row (u1.alloc (.cells #[.int .u8 x1, .int .u8 x2, .int .u8 x3] 5)) u1.heap.size 5 #[.int .u8 x1, .int .u8 x2, .int .u8 x3] := heap_alloc_new u1 _
                  have hu1 : wr.heap.size ≤ u1.heap.size := HS1.out.1.size
                  obtain ⟨b1, hb1⟩ : ∃ b1, b1 = u1.heap.size := ⟨_, rfl⟩
                  have hS1' := clo_app wr base 22 a (N + i) c ys _ _ HS1.out ha1
                  rw [← hb1] at hrw1 hu1 ⊢
                  refine HK.out (fun u => AppS wr base 22 a (N + i) c ys u ∧ Row u b1 5 #[.int .u8 x1, .int .u8 x2, .int .u8 x3]) _ _ ⟨hS1', hrw1⟩ (fun u h => h.1) (clo_and (clo_app _ _ _ _ _ _ _) (clo_row _ _ _)) ?_
                  simp only [Act.put, List.setIfInBounds_toArray, List.set_cons_zero, List.set_cons_succ]
                  clear ha1 hrw1 hS1' HS1 HK hb1
                  refine wpX_step 21 (o := { dst := some 107, op := Op.buildSlice 24 1 #[(0, Operand.tmp 106)], type := 24, pos := "nested.go:89", after := #[{ on := 20, ground := Ground.data }], guard := none }) rfl rfl (by kernel_rfl) (by rfl) (fun u2 hS2 K hK => ?_)
                  have HK := Lib.hid hK
                  have HS2 := Lib.hid hS2
                  clear hK hS2
                  have ha2 := World.grownBy_alloc u2 (.cells #[.slice (some ⟨b1, 0, none⟩) 3 3] 22) none
                  refine wp_val_op (v := .slice (some ⟨u2.heap.size, 0, none⟩) 1 1) (w1 := u2.alloc (.cells #[.slice (some ⟨b1, 0, none⟩) 3 3] 22)) (by go_simp) ?_
                  have hrw2 : Row (u2.alloc (.cells #[.slice (some ⟨b1, 0, none⟩) 3 3] 22)) u2.heap.size 22 #[.slice (some ⟨b1, 0, none⟩) 3 3] := heap_alloc_new u2 _
                  have hu2 : wr.heap.size ≤ u2.heap.size := HS2.out.1.1.size
                  have hu12 : b1 < u2.heap.size := HS2.out.2.lt
                  obtain ⟨b2, hb2⟩ : ∃ b2, b2 = u2.heap.size := ⟨_, rfl⟩
                  have hS2' := clo_app wr base 22 a (N + i) c ys _ _ HS2.out.1 ha2
                  have hR2' := HS2.out.2.grown ha2
                  rw [← hb2] at hrw2 hu2 hu12 ⊢
                  refine HK.out (fun u => (AppS wr base 22 a (N + i) c ys u ∧ Row u b1 5 #[.int .u8 x1, .int .u8 x2, .int .u8 x3]) ∧ Row u b2 22 #[.slice (some ⟨b1, 0, none⟩) 3 3]) _ _ ⟨⟨hS2', hR2'⟩, hrw2⟩ (fun u h => h.1) (clo_and (clo_and (clo_app _ _ _ _ _ _ _) (clo_row _ _ _)) (clo_row _ _ _)) ?_
                  simp only [Act.put, List.setIfInBounds_toArray, List.set_cons_zero, List.set_cons_succ]
                  clear ha2 hrw2 hS2' hR2' HS2 HK hb2
                  refine wpX_step 22 (o := { dst := some 108, op := Op.call { callee := Callee.builtin Builtin.append, args := #[Operand.tmp 86, Operand.tmp 107], argTypes := #[24, 24] }, type := 24, pos := "nested.go:89", after := #[{ on := 0, ground := Ground.data }, { on := 21, ground := Ground.data }], guard := none }) rfl rfl (by kernel_rfl) (by rfl) (fun u3 hS3 K3 hK3 => ?_)
                  have HK3 := Lib.hid hK3
                  have HS3 := Lib.hid hS3
                  clear hK3 hS3
                  have hnews : ∀ j u, ([.slice (some ⟨b1, 0, none⟩) 3 3] : List Value)[j]? = some u → u3.cell? ((⟨b2, 0, none⟩ : Addr).add j) = some u := by
                    intro j u hu
                    have h2 : ((⟨b2, 0, none⟩ : Addr).add j) = ⟨b2, j, none⟩ := by unfold Addr.add; split <;> simp_all
                    rw [h2, Row.cell HS3.out.2]
                    simpa using hu
                  have hzb : base ≤ u3.heap.size := by
                    have h2 := HS3.out.1.1.1.size
                    have h3 := HSZ.out
                    omega
                  have hin : ∀ g, In a c g → g < wr.heap.size := fun g h => (Own.inn HIN.out.row h).2
                  obtain ⟨gF, cF2, w8, hrun, hown8, hgr8⟩ := run_app (P := Try.prog) (ty := 24) u3 elS HS3.out.1.1.2 ⟨b2, 0, none⟩ 1 1 [.slice (some ⟨b1, 0, none⟩) 3 3] rfl hnews (by simp [Value.oneCell']) (by unfold maxLen; omega) (by omega) hzb (fun _ _ _ => trivial) (by omega)
                  refine wp_val_op (v := .slice (some ⟨gF, 0, none⟩) (N + i + 1) cF2) (w1 := w8) (run_app_op u3 w8 _ (.tmp 86) (.tmp 107) rfl _ hrun) ?_
                  refine HK3.out (fun u => ((AppS wr base 22 a (N + i) c ys u ∧ Row u b1 5 #[.int .u8 x1, .int .u8 x2, .int .u8 x3]) ∧ Row u b2 22 #[.slice (some ⟨b1, 0, none⟩) 3 3]) ∧ w8.grownBy u none) _ _ ⟨⟨⟨⟨HS3.out.1.1.1.trans hgr8.ch (fun _ _ h => h), own_behind HS3.out.1.1.2 hown8 hgr8⟩, Row.ch HS3.out.1.2 hgr8.ch (fun h => by have := hin _ h; omega)⟩, Row.ch HS3.out.2 hgr8.ch (fun h => by have := hin _ h; omega)⟩, World.grownBy.refl _ _⟩ (fun u h => h.1) (clo_and (clo_and (clo_and (clo_app _ _ _ _ _ _ _) (clo_row _ _ _)) (clo_row _ _ _)) (clo_grown _)) ?_
                  simp only [Act.put, List.setIfInBounds_toArray, List.set_cons_zero, List.set_cons_succ]
                  refine wpX_last (oL := { dst := some 10, op := Op.assign (Operand.tmp 108), type := 24, pos := "nested.go:89", after := #[{ on := 22, ground := Ground.data }, { on := 22, ground := Ground.chain }, { on := 0, ground := Ground.phase }, { on := 1, ground := Ground.phase }, { on := 2, ground := Ground.phase }, { on := 3, ground := Ground.phase }, { on := 4, ground := Ground.phase }, { on := 5, ground := Ground.phase }, { on := 6, ground := Ground.phase }, { on := 7, ground := Ground.phase }, { on := 8, ground := Ground.phase }, { on := 9, ground := Ground.phase }, { on := 10, ground := Ground.phase }, { on := 11, ground := Ground.phase }, { on := 12, ground := Ground.phase }, { on := 13, ground := Ground.phase }, { on := 14, ground := Ground.phase }, { on := 15, ground := Ground.phase }, { on := 16, ground := Ground.phase }, { on := 17, ground := Ground.phase }, { on := 18, ground := Ground.phase }, { on := 19, ground := Ground.phase }, { on := 20, ground := Ground.phase }, { on := 21, ground := Ground.phase }, { on := 22, ground := Ground.phase }], guard := none }) rfl (by kernel_rfl) (by kernel_rfl) (by rfl) (fun u4 hS4 K4 hK4 => ?_)
                  refine wp_val_op (v := .slice (some ⟨gF, 0, none⟩) (N + i + 1) cF2) (w1 := u4) (by rfl) (hK4 _ _ ?_)
                  simp only [Act.put, List.setIfInBounds_toArray, List.set_cons_zero, List.set_cons_succ]
                  have hbrow : BRow u3 b1 5 (mk3 k (N + i)) := by unfold BRow; rw [HRB.out]; exact HS3.out.1.2
                  have hOR := HOR.out
                  have hs3 := HS3.out.1.1
                  have hl3 : LIn2 base O k hlt wo i a c ys u3 := HIN.out.stay hs3.1 (by rw [← HNN.out]; exact hs3.2)
                  have hl8 := hl3.next (v := .slice (some ⟨b1, 0, none⟩) 3 3) (by rw [← HNN.out]; exact ⟨_, rfl, hbrow⟩) (by rw [← HNN.out]; exact hown8) hgr8
                  have HL4 := Lib.hid (hl8.grown hS4.2)
                  clear hbrow hOR hs3 hl3 hl8 hS4 HS3 HK3 hgr8 hown8 hrun hin hzb hnews hK4
                  go_wp2_with fail
                  go_roundw
                  case rel => exact ⟨i + 1, _, _, _, by omega, by go_num, by rw [HNN.out]; rfl, HL4.out⟩
                  case measure => simp [intOf]; omega
                · obtain rfl : i = 70 := by omega
                  have hgs := HST.out.gsIn hlt HIN.out.frame
                  have hszB : wk.heap.size ≤ wr.heap.size := Nat.le_trans HST.out.size HIN.out.frame.size
                  go_wp2_with (at_builtin; refine wpList_push elL rfl (.tmp 109) (.tmp 111) rfl rfl hgs (.slice a ((O[k]).n + 70) c) rfl rfl (by unfold maxLen; omega) (by omega) hszB ?_; intro g cap w1 hown1 hgr)
                  go_roundw
                  case rel => exact ⟨k + 1, _, _, _, by omega, by go_num, rfl, HST.out.next hlt HD.out HIN.out hown1 hgr⟩
                  case measure => simp [intOf]; omega
            · obtain rfl : k = O.length := by omega
              obtain ⟨w3, rfl⟩ : ∃ w3 : World, w3 = wr := ⟨_, rfl⟩
              go_wp2_with fail
              go_loopw [12] (fun vk wr => ∃ k : Nat, k ≤ O.length ∧ vk = .int .i64 k ∧ w3.grownBy wr none) (fun vk _ => O.length - (intOf vk).toNat)
              case atStart => exact ⟨0, by omega, rfl, World.grownBy.refl _ _⟩
              case round =>
                obtain ⟨k, hk, rfl, hg⟩ := hrel
                have HG := Lib.hid hg
                clear hg
                by_cases hlt : k < O.length
                · obtain ⟨gl, gg, h, c, rfl, rfl, c1, c2, c3, c4⟩ := HST.out.look k hlt
                  have cellg : ∀ (b i : Nat) (v : Value), w3.cell? ⟨b, i, none⟩ = some v → ∀ u, w3.grownBy u none → u.cell? ⟨b, i, none⟩ = some v := fun b i v h u hu => (World.cell?_of_block (hu.block b (World.block_lt_of_cell? _ _ h) (by simp))).trans h
                  have HC1 := Lib.hid (cellg _ _ _ c1)
                  have HC2 := Lib.hid (cellg _ _ _ c2)
                  have HC3 := Lib.hid c3
                  have HC4 := Lib.hid c4
                  have HCG := Lib.hid cellg
                  have hnb : (O[k]).n ≤ 10000000 := by
                    have h2 := (HI.out k hlt (by rw [HLL.out]; exact hlt))
                    have h3 : (Ls[k]'(by rw [HLL.out]; exact hlt)).length = (O[k]).n := SOwn.len h2
                    have h4 := flat_at Ls k (by rw [HLL.out]; exact hlt) (O[k]).n (by omega)
                    rw [List.length_append, List.length_take] at h4
                    have h5 := HM.out
                    omega
                  clear c1 c2 c3 c4 cellg
                  obtain ⟨N, hNN⟩ : ∃ N, N = (O[k]).n := ⟨_, rfl⟩
                  rw [← hNN] at hnb HC1 HC2 HC3 HC4
                  clear hNN
                  go_wp2_with fail
                  go_loopw [13] (fun vi wr => ∃ i : Nat, i ≤ N + 70 ∧ vi = .int .i64 i ∧ w3.grownBy wr none) (fun vi _ => N + 70 - (intOf vi).toNat)
                  case atStart => exact ⟨0, by omega, rfl, HG.out⟩
                  case round =>
                    obtain ⟨i, hi, rfl, hg⟩ := hrel
                    replace HG := Lib.hid hg
                    clear hg
                    have c2 := HC2.out _ HG.out
                    by_cases hlt2 : i < N + 70
                    · obtain ⟨b1, c3, r3⟩ := HC3.out i hlt2
                      have HR3 := Lib.hid r3
                      have HCC3 := Lib.hid (HCG.out _ _ _ c3)
                      clear r3 c3
                      obtain ⟨x1, hx1⟩ : ∃ x1 : Int, x1 = ((UInt8.ofNat k).toNat : Int) := ⟨_, rfl⟩
                      obtain ⟨x2, hx2⟩ : ∃ x2 : Int, x2 = ((UInt8.ofNat (i)).toNat : Int) := ⟨_, rfl⟩
                      obtain ⟨x3, hx3⟩ : ∃ x3 : Int, x3 = ((UInt8.ofNat ((i) / 256)).toNat : Int) := ⟨_, rfl⟩
                      obtain ⟨q, hq⟩ : ∃ q : Int, q = (((i) / 256 : Nat) : Int) := ⟨_, rfl⟩
                      have hw1 : IntKind.u8.wrap (k : Int) = x1 := by rw [hx1]; exact u8_ofNat _
                      have hw2 : IntKind.u8.wrap ((i : Int)) = x2 := by rw [hx2, ← u8_ofNat]
                      have hw3 : IntKind.u8.wrap q = x3 := by rw [hx3, hq]; exact u8_ofNat _
                      have hq1 : ((i : Int)).tdiv 256 = q := by rw [hq]; exact tdiv256 _ _ (by omega)
                      have hq2 : ((i : Int)) / 256 = q := by rw [hq]; omega
                      have hq3 : IntKind.i64.wrap q = q := IntWalk.i64_in _ (by omega)
                      have hrb : rowB (mk3 k (i)) = #[.int .u8 x1, .int .u8 x2, .int .u8 x3] := by rw [hx1, hx2, hx3]; rfl
                      clear hx1 hx2 hx3 hq
                      have hnew : BLies (wr.alloc (.cells #[.int .u8 x1, .int .u8 x2, .int .u8 x3] 5)) (some ⟨wr.heap.size, 0, none⟩) (mk3 k i) := BRow.lies (t := 5) (by unfold BRow; rw [hrb]; exact heap_alloc_new wr _)
                      have ha := grownBy_al HG.out (.cells #[.int .u8 x1, .int .u8 x2, .int .u8 x3] 5)
                      clear hrb
                      obtain ⟨w4, hw4⟩ : ∃ w4, w4 = wr.alloc (.cells #[.int .u8 x1, .int .u8 x2, .int .u8 x3] 5) := ⟨_, rfl⟩
                      have HW4 := Lib.hid hw4
                      rw [← hw4] at hnew ha
                      have HNEW := Lib.hid hnew
                      have HA := Lib.hid ha
                      clear hw4 hnew ha
                      go_upto_region 35 with fail
                      rw [← HW4.out]
                      obtain ⟨bw, hbw⟩ : ∃ bw, bw = wr.heap.size := ⟨_, rfl⟩
                      rw [← hbw] at HNEW ⊢
                      clear hbw c2 HW4
                      have c2 := HC2.out _ HA.out
                      have c3 := HCC3.out _ HA.out
                      by_cases hin : i < N
                      · obtain ⟨g, b2, ha2, c4, r4⟩ := HC4.out i hin
                        have HR4 := Lib.hid r4
                        have HCC4 := Lib.hid (HCG.out _ _ _ c4)
                        have hhd : decide ((i : Int) < (N : Int)) = true := by rw [decide_eq_true_iff]; omega
                        clear r4 c4
                        have HC1' := HC1.out
                        rw [ha2] at HC1'
                        have HC1 := Lib.hid HC1'
                        clear HC1' ha2
                        go_wp2_with fail
                        refine (same_yes _ _ 3 3 3 3 (mk3 k i) _ (BRow.lies (HR3.out.grown HA.out)) HNEW.out rfl rfl (by decide)).mono ?_
                        rintro e w5 ⟨rfl, q5, hq5⟩
                        have hg5 : w4.grownBy w5 none := by rw [hq5]; exact grownBy_drewN _ _ _
                        have HA5 := Lib.hid (grownBy_trans HA.out hg5)
                        have HN5 := Lib.hid (HNEW.out.grown hg5)
                        clear hq5 hg5 c2 c3
                        have c1 := HC1.out _ HA5.out
                        have c4 := HCC4.out _ HA5.out
                        go_wp2_with fail
                        refine (same_yes _ _ 3 3 3 3 (mk3 k i) _ (BRow.lies (HR4.out.grown HA5.out)) HN5.out rfl rfl (by decide)).mono ?_
                        rintro e w6 ⟨rfl, q6, hq6⟩
                        have HA6 := Lib.hid (show w3.grownBy w6 none by rw [hq6]; exact grownBy_trans HA5.out (grownBy_drewN _ _ _))
                        clear hq6 c1 c4
                        go_wp2_with fail
                        go_roundw
                        case rel => exact ⟨i + 1, by omega, by go_num, HA6.out⟩
                        case measure => simp [intOf]; omega
                      · have hhd : decide ((i : Int) < (N : Int)) = false := by rw [decide_eq_false_iff_not]; omega
                        go_wp2_with fail
                        refine (same_yes _ _ 3 3 3 3 (mk3 k i) _ (BRow.lies (HR3.out.grown HA.out)) HNEW.out rfl rfl (by decide)).mono ?_
                        rintro e w5 ⟨rfl, q5, hq5⟩
                        have hg5 : w4.grownBy w5 none := by rw [hq5]; exact grownBy_drewN _ _ _
                        have HA5 := Lib.hid (grownBy_trans HA.out hg5)
                        clear hq5 hg5 c2 c3
                        have c1 := HC1.out _ HA5.out
                        go_wp2_with fail
                        go_roundw
                        case rel => exact ⟨i + 1, by omega, by go_num, HA5.out⟩
                        case measure => simp [intOf]; omega
                    · obtain rfl : i = N + 70 := by omega
                      go_wp2_with fail
                      go_roundw
                      case rel => exact ⟨k + 1, by omega, by go_num, HG.out⟩
                      case measure => simp [intOf]; omega
                · obtain rfl : k = O.length := by omega
                  go_wp2_with fail
                  go_ret
                  exact ⟨rfl, HST.out.below.trans ((Below.refl base w3).grown HG.out (Nat.le_trans HST.out.baseB HST.out.size) (by simp))⟩

theorem apartLists_n (base : Nat) (als : Option Addr) (cls n : Nat) (O : List Sl) (Ls : List (List Sl)) (w : World) (ho : OOwn w base als n cls O) (hn : O.length = n) (hll : Ls.length = n)
    (hi : ∀ j (hj : j < O.length) (hj' : j < Ls.length), SOwn w base (O[j]).a (O[j]).n (O[j]).c Ls[j]) (hb : ∀ j (hj : j < Ls.flatten.length), ∃ l, BOwn w base (Ls.flatten[j]).a (Ls.flatten[j]).n (Ls.flatten[j]).c l)
    (hd : Distinct O) (hdf : Distinct Ls.flatten) (hbase : base ≤ w.heap.size) (hK : n ≤ 1000) (hM : Ls.flatten.length ≤ 10000000) (hN : ∀ j (hj : j < Ls.flatten.length), (Ls.flatten[j]).n ≤ 100000000) :
    Calls Try.prog 58 #[.slice als n cls] w fun e w' => e = .returned (.bool true) ∧ Below base w w' := by
  subst hn
  exact apartLists_any base als cls O Ls w ho hll hi hb hd hdf hbase hK hM hN
end Go.Proofs.Ythemlaibjchjpaa
/- ApartLists of a literal list of lists that calls have handed out, each in memory of its own. -/
namespace Go.Proofs.Ythemlaibjchjpaa
open Go.RowKit

def Sl.offT (s t : Sl) : Prop := ∀ g, s.blk = some g → t.blk ≠ some g
theorem Sl.offT_win {s t : Sl} {a b c d : Nat} (h : s.within a b) (k : t.within c d) (hbc : b ≤ c) : s.offT t := fun g h1 h2 => by
  have := h g h1
  have := k g h2
  omega
theorem distinct_pairsT (L : List Sl) (h : L.Pairwise Sl.offT) : Distinct L := by
  intro i j hi hj hne g h1 h2
  rw [List.pairwise_iff_getElem] at h
  rcases Nat.lt_or_gt_of_ne hne with hlt | hlt
  · exact h i j hi hj hlt g h1 h2
  · exact h j i hj hi hlt g h2 h1
theorem distinct_offT {L : List Sl} (h : Distinct L) : L.Pairwise Sl.offT := by
  rw [List.pairwise_iff_getElem]
  intro i j hi hj hij g h1 h2
  exact h i j hi hj (by omega) g h1 h2
theorem Sl.within_mono {s : Sl} {a b c d : Nat} (h : s.within a b) (h1 : c ≤ a) (h2 : b ≤ d) : s.within c d := fun g hg => by have := h g hg; omega

theorem LIs.boxO {w : World} {base : Nat} {a : Option Addr} {n c : Nat} {bs : List (List UInt8)} {L : List Sl} (h : LIs w base a n c bs L) : (⟨a, n, c⟩ : Sl).within base w.heap.size := fun g hg => by
  obtain ⟨_, _, h1, h2⟩ := own_blk (s := ⟨a, n, c⟩) h.outer hg
  exact ⟨h1, h2⟩
theorem LIs.boxI {w : World} {base : Nat} {a : Option Addr} {n c : Nat} {bs : List (List UInt8)} {L : List Sl} (h : LIs w base a n c bs L) (j : Nat) (hj : j < L.length) : (L[j]).within base w.heap.size := fun g hg => by
  obtain ⟨_, _, h1, h2⟩ := own_blk (h.inner j hj (by have := h.len; omega)) hg
  exact ⟨h1, h2⟩
/-- what ApartBytes of other lists leaves -/
theorem LIs.keptT {w w' : World} {base b0 lo hi : Nat} {a : Option Addr} {n c : Nat} {bs : List (List UInt8)} {L SL : List Sl} (h : LIs w base a n c bs L) (hb : BelowT b0 SL w w') (hs : ∀ j (hj : j < SL.length), (SL[j]).within lo hi) (hh : hi ≤ base) : LIs w' base a n c bs L :=
  ⟨Own.keptT h.outer (by decide) hb, h.len, fun i h1 h2 => (h.inner i h1 h2).kept' fun hc g ha hl => hb.off g (.inr ⟨hl, fun j hj e => by
    have h3 := hs j hj g e
    obtain ⟨g', ha', h4, _⟩ := Own.block (h.inner i h1 h2) hc
    rw [ha] at ha'
    injection ha' with ha'; injection ha' with ha'
    omega⟩), h.apart⟩

theorem apartLists_lit (w : World) (base : Nat) (O : List Sl) (Ls : List (List Sl)) (b : Nat → Nat) (hbm : ∀ i, i < O.length → b i ≤ b (i + 1)) (hb0 : base ≤ b 0) (hbw : base ≤ w.heap.size)
    (h : ∀ i (hi : i < O.length) (hi' : i < Ls.length), (∃ bs, LIs w (b i) (O[i]).a (O[i]).n (O[i]).c bs Ls[i]) ∧ (O[i]).within (b i) (b (i + 1)) ∧ ∀ j (hj : j < (Ls[i]).length), ((Ls[i])[j]).within (b i) (b (i + 1)))
    (hll : Ls.length = O.length) (n : Nat) (hn : O.length = n) (hK : n ≤ 1000) (hM : Ls.flatten.length ≤ 10000000) (hN : ∀ L ∈ Ls, ∀ s ∈ L, s.n ≤ 100000000) :
    Calls Try.prog 58 #[.slice (some ⟨w.heap.size, 0, none⟩) n n] (w.alloc (.cells (O.map Sl.val).toArray 24)) fun e w' => e = .returned (.bool true) ∧ Below base (w.alloc (.cells (O.map Sl.val).toArray 24)) w' := by
  have hga := World.grownBy_alloc w (.cells (O.map Sl.val).toArray 24) none
  have hbi : ∀ i, i ≤ O.length → base ≤ b i := by
    intro i
    induction i with
    | zero => intro _; exact hb0
    | succ i ih => intro hi; exact Nat.le_trans (ih (by omega)) (hbm i (by omega))
  have hbmono : ∀ i j, i ≤ j → j ≤ O.length → b i ≤ b j := by
    intro i j hij
    induction j with
    | zero => intro _; have : i = 0 := by omega
              subst this; exact Nat.le_refl _
    | succ j ih =>
      intro hj
      by_cases e : i = j + 1
      · subst e; exact Nat.le_refl _
      · exact Nat.le_trans (ih (by omega) (by omega)) (hbm j (by omega))
  refine apartLists_n base _ n n O Ls _ ((own_lit w _ _ n (by simpa using hn) (by unfold maxLen; omega)).mono hbw) hn (by omega) (fun j hj hj' => ?_) (fun j hj => ?_) (distinct_of O b hbm (fun i hi => (h i hi (by omega)).2.1)) (distinct_pairsT _ ?_) (Nat.le_trans hbw hga.size) hK hM (fun j hj => ?_)
  · obtain ⟨⟨bs, h1⟩, _⟩ := h j hj hj'
    exact (Own.grownNone h1.outer hga).mono (hbi j (by omega))
  · have hm := List.getElem_mem hj
    rw [List.mem_flatten] at hm
    obtain ⟨L, hL, hs⟩ := hm
    obtain ⟨i, hi, rfl⟩ := List.getElem_of_mem hL
    obtain ⟨k, hk, e⟩ := List.getElem_of_mem hs
    obtain ⟨⟨bs, h1⟩, _⟩ := h i (by omega) hi
    have h2 := h1.inner k hk (by have := h1.len; omega)
    rw [e] at h2
    exact ⟨_, ((h2.grown hga).mono (hbi i (by omega)))⟩
  · rw [List.pairwise_flatten]
    refine ⟨fun L hL => ?_, ?_⟩
    · obtain ⟨i, hi, rfl⟩ := List.getElem_of_mem hL
      obtain ⟨⟨bs, h1⟩, _⟩ := h i (by omega) hi
      exact distinct_offT h1.apart
    · rw [List.pairwise_iff_getElem]
      intro i j hi hj hij s hs t ht
      obtain ⟨k, hk, rfl⟩ := List.getElem_of_mem hs
      obtain ⟨m, hm, rfl⟩ := List.getElem_of_mem ht
      exact Sl.offT_win ((h i (by omega) hi).2.2 k hk) ((h j (by omega) hj).2.2 m hm) (hbmono (i + 1) j (by omega) (by omega))
  · have hm := List.getElem_mem hj
    rw [List.mem_flatten] at hm
    obtain ⟨L, hL, hs⟩ := hm
    exact hN L hL _ hs
end Go.Proofs.Ythemlaibjchjpaa
/- A region that draws its order and makes lists of bytes and calls beside: one step each. -/
namespace Go.Proofs.Ythemlaibjchjpaa
open Go.RowKit

theorem wp_mkB {o : Oper} {a : Act} {w : World} {K : Act → World → Prop} {Q : Exit → Act → World → Prop} (l c : Operand) (hop : o.op = Op.makeSlice 22 l c)
    (n : Nat) (hl : a.eval l = .int .i64 (n : Int)) (hc : a.eval c = .int .i64 (n : Int)) (hn : n ≤ 281474976710656)
    (h : ∀ W, W.heap.size = w.heap.size + 1 → w.grownBy W none → BRow W w.heap.size 5 (List.replicate n 0) → K (a.put o.dst (.slice (some ⟨w.heap.size, 0, none⟩) n n)) W) : o.wp Try.prog a w K Q := by
  obtain ⟨i, hi, hz, hs, hb⟩ := info_parts (show (Try.prog.info? 5).map (fun i => (i.zero, i.size, i.bytes)) = some (some (.int .u8 0), 1, 1) by kernel_rfl)
  have hrun := run_make_row (P := Try.prog) 22 5 i (.int .u8 0) Try.underlying22 hi hz hs rfl .i64 .i64 n (by rw [hb]; omega) (by omega) w
  unfold Oper.wp
  simp [execOp, hop, hl, hc, hrun, Result.andThen]
  refine h _ (by simp) (World.grownBy_alloc w _ none) ?_
  rw [madeCells_u8]
  exact heap_alloc_new w _
end Go.Proofs.Ythemlaibjchjpaa
/- The law OctetFrames. Printed by gens/octframes.py. -/
namespace Go.Proofs.Ythemlaibjchjpaa
open Go.RowKit

theorem unP_flat (l : List UInt8) : 8 * (unP l).length + (unP l).flatten.length ≤ l.length := by
  unfold unP
  cases h : unf l with
  | none => simp
  | some ps => have := unf_flat h; simp only [Option.getD_some]; omega

set_option maxRecDepth 100000 in
set_option maxHeartbeats 4000000 in
theorem octframes_walk (a b : Option Addr) (c cb n m : Nat) (L : List Sl) (bs : List (List UInt8)) (lb : List UInt8) (w : World) (ha : LLies w a L bs) (hbl : BLies w b lb) (hn : bs.length = n) (hm : lb.length = m) (hmc : m ≤ cb) (hf : bs.flatten.length ≤ 1048576) (hn2 : n ≤ 1048576) (hm2 : m ≤ 1048576) :
    Calls Try.prog 12 #[.slice a n c, .slice b m cb] w fun e w' => e = .returned (.bool true) ∧ w.grownBy w' none := by
  obtain ⟨il, hil, hilz, hils, _⟩ := info_parts (show (Try.prog.info? 88).map (fun i => (i.zero, i.size, i.bytes)) = some (some (.agg #[.slice none 0 0, .slice none 0 0, .slice none 0 0]), 3, 72) by kernel_rfl)
  have hb : ∀ p ∈ bs, p.length ≤ 1048576 := fun p hp => by
    obtain ⟨i, hi, rfl⟩ := List.getElem_of_mem hp
    have := flat_le (bs := bs) i hi
    omega
  have hj1 := fun (a : Option Addr) (c : Nat) (L : List Sl) (W : World) (h : LLies W a L bs) => joinB_n a c n L bs W h hn (by omega) (by omega)
  have hf1 := fun (a : Option Addr) (c : Nat) (L : List Sl) (W : World) (h : LLies W a L bs) => framed_n a c n L bs W h hn (by omega) (by omega)
  have hu1 := fun (a : Option Addr) (c : Nat) (W : World) (h : BLies W a lb) => unframed_n a c m lb W h hm (by omega)
  have hj2 := fun (a : Option Addr) (c : Nat) (L : List Sl) (W : World) (h : LLies W a L bs) => refJoin_n a c n L bs W h hn (by omega) (by omega)
  have hf2 := fun (a : Option Addr) (c : Nat) (L : List Sl) (W : World) (h : LLies W a L bs) => refFramed_n a c n L bs W h hn (by omega) (by omega)
  have hu2 := fun (a : Option Addr) (c : Nat) (W : World) (h : BLies W a lb) (hc : m ≤ c) => refUnframed_n a c m lb W h hm hc (by omega)
  have bJ : bs.flatten.length ≤ 10000000 := by omega
  have bF : (fr bs).length ≤ 10000000 := by rw [fr_length]; omega
  have bU := unP_flat lb
  rw [hm] at bU
  generalize bs.flatten = J at hj1 hj2 bJ
  generalize fr bs = FRM at hf1 hf2 bF
  generalize unE lb = E at hu1 hu2
  generalize unP lb = U at hu1 hu2 bU
  have bUm : ∀ p ∈ U, p.length ≤ 1048576 := fun p hp => by
    obtain ⟨i, hi, rfl⟩ := List.getElem_of_mem hp
    have := flat_le (bs := U) i hi
    omega
  have bUn : U.length ≤ 1048576 := by omega
  have HjoinB := Lib.hid hj1
  have Hframed := Lib.hid hf1
  have HU1 := Lib.hid hu1
  have HJ2 := Lib.hid hj2
  have HF2 := Lib.hid hf2
  have HU2 := Lib.hid hu2
  have BJ := Lib.hid bJ
  have BF := Lib.hid bF
  have BU := Lib.hid bUm
  have BN := Lib.hid bUn
  have HA := Lib.hid ha
  have HN := Lib.hid hn
  have HB := Lib.hid hb
  have HBL := Lib.hid hbl
  have HM := Lib.hid hm
  clear hj1 hf1 hu1 hj2 hf2 hu2 bJ bF bU bUm bUn ha hn hb hbl hm
  go_enter Try.func12, Try.ntmps12
  go_wp2_with fail
  refine (lentLists_n a c n L bs w HA.out HN.out (fun p hp => by have := HB.out p hp; omega) (by omega)).mono ?_
  rintro e w1 ⟨aF, cF, aE, cE, Es, Ms, rfl, hE, hF, hMl, hM, g⟩
  have hcF := (Own.cap hF).1
  obtain ⟨gF, haF, hgF1, hgF2⟩ := Own.block hF (by omega)
  subst haF
  have HE0 := Lib.hid hE
  have HF0 := Lib.hid hF
  have HTE : Hid (∀ i (h : i < Es.length) g, In (Es[i]).a (Es[i]).c g → g < w1.heap.size) := Lib.hid (fun i h g hi => (Own.inn (hE.inner i h (by have := hE.len; omega)) hi).2)
  have HM0 := Lib.hid hM
  have HML := Lib.hid hMl
  have HG := Lib.hid g
  have Z1 := Lib.hid g.size
  clear hE hF hM hMl g
  go_upto_region 2 with (refine wpList_fresh rfl rfl rfl rfl rfl hil hilz (by rw [hils]; rfl) #[.slice (some ⟨gF, 0, none⟩) n cF, .slice (some ⟨gF, 0, none⟩) (n + 70) cF, .slice aE n cE] rfl rfl rfl (by simp [Value.oneCell']) ?_; intro w2 hs2 hg2 hr2; have HS2 := Lib.hid hs2; have HG2 := Lib.hid hg2; have HP := Lib.hid hr2; clear hs2 hg2 hr2)
  obtain ⟨b5, hb5⟩ : ∃ b5, b5 = w1.heap.size := ⟨_, rfl⟩
  have hb5s : b5 < w2.heap.size := by rw [hb5]; exact HP.out.lt
  rw [← hb5] at HP ⊢
  rw [← hb5] at HTE hgF2
  have hbb : w.heap.size ≤ b5 := by rw [hb5]; exact Z1.out
  clear hb5 HS2
  have g := HG2.out
  have HE := Lib.hid (HE0.out.grown g)
  have HF : Hid (SOwn w2 w.heap.size (some ⟨gF, 0, none⟩) (n + 70) cF (preS Es ++ Ms)) := Lib.hid (Own.ch HF0.out (Ch.ofNone g (fun _ => False)) (fun _ _ _ h => h))
  replace HG := Lib.hid (grownBy_trans HG.out g)
  have HW1 := Lib.hid g
  have Z2 := Lib.hid g.size
  clear g HG2
  go_wp2_with fail
  refine (lent_n _ _ _ lb _ (HBL.out.grown HG.out) HM.out (by omega)).mono ?_
  rintro e w3 ⟨gB, cB, rfl, oF, g⟩
  have hccB := oF.cap.1
  have YgB : Hid (w2.heap.size ≤ gB ∧ gB < w3.heap.size) := Lib.hid (by obtain ⟨g', e, h1, h2⟩ := Own.block oF (by omega); injection e with e; injection e with e; subst e; exact ⟨h1, h2⟩)
  have HFB := Lib.hid oF
  clear oF
  have Z3 := Lib.hid g.size
  replace HG := Lib.hid (grownBy_trans HG.out g)
  replace HP := Lib.hid (HP.out.grown g)
  replace HE := Lib.hid (HE.out.grown g)
  replace HF : Hid (SOwn w3 w.heap.size (some ⟨gF, 0, none⟩) (n + 70) cF (preS Es ++ Ms)) := Lib.hid (Own.ch HF.out (Ch.ofNone g (fun _ => False)) (fun _ _ _ h => h))
  replace HW1 := Lib.hid (grownBy_trans HW1.out g)
  clear g
  have hcl : ∀ u, w3.grownBy u none → u.cell? ⟨b5, 0, none⟩ = some (.slice (some ⟨gF, 0, none⟩) n cF) := fun u hu => by
    have c0 := Row.cell (HP.out.grown hu) 0
    simpa using c0
  have HCL := Lib.hid hcl
  have hpl : ∀ u, w3.grownBy u none → LLies u (some ⟨gF, 0, none⟩) (preS Es) bs := fun u hu => (pre_lies HE.out HF.out).grown hu
  have HPL := Lib.hid hpl
  clear hcl hpl
  go_upto_region 3 with fail
  refine wp_regionX (fun u => w3.grownBy u none) 7 (by kernel_rfl) (grownBy_drewN w3 1 none) ?_
  refine wpX_take 0 (v := .pointer (some ⟨b5, 0, none⟩)) (oi := { dst := some 23, op := Op.fieldAddr 88 (Operand.tmp 5) 0, type := 0, pos := "law.go:79", after := #[], guard := none }) (oL := { dst := some 8, op := Op.assign (Operand.tmp 28), type := 22, pos := "law.go:79", after := #[{ on := 5, ground := Ground.data }, { on := 6, ground := Ground.chain }, { on := 0, ground := Ground.phase }, { on := 1, ground := Ground.phase }, { on := 2, ground := Ground.phase }, { on := 3, ground := Ground.phase }, { on := 4, ground := Ground.phase }, { on := 5, ground := Ground.phase }, { on := 6, ground := Ground.phase }], guard := none }) (clo_grown _) rfl rfl rfl (by kernel_rfl) (by kernel_rfl) (by kernel_rfl) (by kernel_rfl) (by kernel_rfl) (fun _ _ _ h => h) (YG.val (by rfl) (fun _ _ => by go_simp)) ?_
  simp only [Act.put, List.setIfInBounds_toArray, List.set_cons_zero, List.set_cons_succ]
  refine wpX_take 1 (v := .slice (some ⟨gF, 0, none⟩) n cF) (oi := { dst := some 24, op := Op.load 24 (Operand.tmp 23), type := 24, pos := "law.go:79", after := #[{ on := 0, ground := Ground.data }], guard := none }) (oL := { dst := some 8, op := Op.assign (Operand.tmp 28), type := 22, pos := "law.go:79", after := #[{ on := 5, ground := Ground.data }, { on := 6, ground := Ground.chain }, { on := 0, ground := Ground.phase }, { on := 1, ground := Ground.phase }, { on := 2, ground := Ground.phase }, { on := 3, ground := Ground.phase }, { on := 4, ground := Ground.phase }, { on := 5, ground := Ground.phase }, { on := 6, ground := Ground.phase }], guard := none }) (clo_grown _) rfl rfl rfl (by kernel_rfl) (by kernel_rfl) (by kernel_rfl) (by kernel_rfl) (by kernel_rfl) (fun _ _ _ h => h) (YG.val (by rfl) (fun u hu => by have c0 := HCL.out u hu; go_simp)) ?_
  simp only [Act.put, List.setIfInBounds_toArray, List.set_cons_zero, List.set_cons_succ]
  refine wpX_take 3 (v := .pointer (some ⟨b5, 0, none⟩)) (oi := { dst := some 26, op := Op.fieldAddr 88 (Operand.tmp 5) 0, type := 0, pos := "law.go:79", after := #[], guard := none }) (oL := { dst := some 8, op := Op.assign (Operand.tmp 28), type := 22, pos := "law.go:79", after := #[{ on := 5, ground := Ground.data }, { on := 6, ground := Ground.chain }, { on := 0, ground := Ground.phase }, { on := 1, ground := Ground.phase }, { on := 2, ground := Ground.phase }, { on := 3, ground := Ground.phase }, { on := 4, ground := Ground.phase }, { on := 5, ground := Ground.phase }, { on := 6, ground := Ground.phase }], guard := none }) (clo_grown _) rfl rfl rfl (by kernel_rfl) (by kernel_rfl) (by kernel_rfl) (by kernel_rfl) (by kernel_rfl) (fun _ _ _ h => h) (YG.val (by rfl) (fun _ _ => by go_simp)) ?_
  simp only [Act.put, List.setIfInBounds_toArray, List.set_cons_zero, List.set_cons_succ]
  refine wpX_take 4 (v := .slice (some ⟨gF, 0, none⟩) n cF) (oi := { dst := some 27, op := Op.load 24 (Operand.tmp 26), type := 24, pos := "law.go:79", after := #[{ on := 3, ground := Ground.data }], guard := none }) (oL := { dst := some 8, op := Op.assign (Operand.tmp 28), type := 22, pos := "law.go:79", after := #[{ on := 5, ground := Ground.data }, { on := 6, ground := Ground.chain }, { on := 0, ground := Ground.phase }, { on := 1, ground := Ground.phase }, { on := 2, ground := Ground.phase }, { on := 3, ground := Ground.phase }, { on := 4, ground := Ground.phase }, { on := 5, ground := Ground.phase }, { on := 6, ground := Ground.phase }], guard := none }) (clo_grown _) rfl rfl rfl (by kernel_rfl) (by kernel_rfl) (by kernel_rfl) (by kernel_rfl) (by kernel_rfl) (fun _ _ _ h => h) (YG.val (by rfl) (fun u hu => by have c0 := HCL.out u hu; go_simp)) ?_
  simp only [Act.put, List.setIfInBounds_toArray, List.set_cons_zero, List.set_cons_succ]
  refine wpX_step 2 (o := { dst := some 25, op := Op.call { callee := Callee.value (Operand.func 35), args := #[Operand.tmp 24], argTypes := #[24] }, type := 22, pos := "law.go:79", after := #[{ on := 1, ground := Ground.data }], guard := none }) rfl rfl (by kernel_rfl) (by rfl) (fun u2 hS2 K hK => ?_)
  have HK := Lib.hid hK
  have HS := Lib.hid hS2
  clear hK hS2
  refine wp_call_op (f := 35) (args := #[.slice (some ⟨gF, 0, none⟩) n cF]) (w1 := u2) (by go_simp) ((HjoinB.out _ _ _ u2 (HPL.out u2 HS.out)).mono ?_)
  rintro e uj ⟨aj, mj, cj, rfl, ho, g⟩
  have Guj := Lib.hid (grownBy_trans HS.out g)
  have Zuj := Lib.hid HS.out.size
  obtain rfl := BOwn.len ho
  have HXj := Lib.hid (BOwn.mono ho Zuj.out)
  have WIj := Lib.hid (BOwn.within HXj.out)
  clear ho
  refine ⟨_, rfl, HK.out (fun u => uj.grownBy u none) _ _ (World.grownBy.refl _ _) (fun u h => grownBy_trans Guj.out h) (clo_grown uj) ?_⟩
  clear HK HS g
  simp only [Act.put, List.setIfInBounds_toArray, List.set_cons_zero, List.set_cons_succ]
  refine wpX_step 5 (o := { dst := some 28, op := Op.call { callee := Callee.value (Operand.func 35), args := #[Operand.tmp 27], argTypes := #[24] }, type := 22, pos := "law.go:79", after := #[{ on := 4, ground := Ground.data }, { on := 2, ground := Ground.chain }], guard := none }) rfl rfl (by kernel_rfl) (by rfl) (fun u2 hS2 K hK => ?_)
  have HK := Lib.hid hK
  have HS := Lib.hid hS2
  clear hK hS2
  refine wp_call_op (f := 35) (args := #[.slice (some ⟨gF, 0, none⟩) n cF]) (w1 := u2) (by go_simp) ((HjoinB.out _ _ _ u2 (HPL.out u2 (grownBy_trans Guj.out HS.out))).mono ?_)
  rintro e uk ⟨ak, mk, ck, rfl, ho, g⟩
  have Guk := Lib.hid (grownBy_trans HS.out g)
  have Zuk := Lib.hid HS.out.size
  obtain rfl := BOwn.len ho
  have HXk := Lib.hid (BOwn.mono ho Zuk.out)
  have WIk := Lib.hid (BOwn.within HXk.out)
  clear ho
  refine ⟨_, rfl, HK.out (fun u => uk.grownBy u none) _ _ (World.grownBy.refl _ _) (fun u h => grownBy_trans Guk.out h) (clo_grown uk) ?_⟩
  clear HK HS g
  simp only [Act.put, List.setIfInBounds_toArray, List.set_cons_zero, List.set_cons_succ]
  refine wpX_take 6 (v := .slice aj J.length cj) (oi := { dst := some 7, op := Op.assign (Operand.tmp 25), type := 22, pos := "law.go:79", after := #[{ on := 2, ground := Ground.data }, { on := 5, ground := Ground.chain }, { on := 0, ground := Ground.phase }, { on := 1, ground := Ground.phase }, { on := 2, ground := Ground.phase }, { on := 3, ground := Ground.textOnly Departure.lateStores }, { on := 4, ground := Ground.textOnly Departure.lateStores }, { on := 5, ground := Ground.textOnly Departure.lateStoresUnsure }], guard := none }) (oL := { dst := some 8, op := Op.assign (Operand.tmp 28), type := 22, pos := "law.go:79", after := #[{ on := 5, ground := Ground.data }, { on := 6, ground := Ground.chain }, { on := 0, ground := Ground.phase }, { on := 1, ground := Ground.phase }, { on := 2, ground := Ground.phase }, { on := 3, ground := Ground.phase }, { on := 4, ground := Ground.phase }, { on := 5, ground := Ground.phase }, { on := 6, ground := Ground.phase }], guard := none }) (clo_grown _) rfl rfl rfl (by kernel_rfl) (by kernel_rfl) (by kernel_rfl) (by kernel_rfl) (by kernel_rfl) (fun _ _ _ h => h) (YG.val (by rfl) (fun _ _ => rfl)) ?_
  simp only [Act.put, List.setIfInBounds_toArray, List.set_cons_zero, List.set_cons_succ]
  refine wpX_last (oL := { dst := some 8, op := Op.assign (Operand.tmp 28), type := 22, pos := "law.go:79", after := #[{ on := 5, ground := Ground.data }, { on := 6, ground := Ground.chain }, { on := 0, ground := Ground.phase }, { on := 1, ground := Ground.phase }, { on := 2, ground := Ground.phase }, { on := 3, ground := Ground.phase }, { on := 4, ground := Ground.phase }, { on := 5, ground := Ground.phase }, { on := 6, ground := Ground.phase }], guard := none }) rfl (by kernel_rfl) (by kernel_rfl) (by rfl) (fun u4 hS4 K4 hK4 => ?_)
  refine wp_val_op (v := .slice ak J.length ck) (w1 := u4) (by rfl) (hK4 _ _ ?_)
  simp only [Act.put, List.setIfInBounds_toArray, List.set_cons_zero, List.set_cons_succ]
  have g := grownBy_trans (grownBy_trans Guj.out Guk.out) hS4
  have gx := grownBy_trans Guk.out hS4
  obtain ⟨w4, hwn⟩ : ∃ w4, w4 = u4 := ⟨_, rfl⟩
  rw [← hwn] at hS4 g gx ⊢
  replace HXj := Lib.hid (BOwn.grown HXj.out gx)
  replace HXk := Lib.hid (BOwn.grown HXk.out hS4)
  have ZAj := Lib.hid Guj.out.size
  have ZBj := Lib.hid gx.size
  have ZCj := Lib.hid hS4.size
  clear hwn hS4 gx hK4 HCL HPL Guj Guk
  have Z4 := Lib.hid g.size
  replace HG := Lib.hid (grownBy_trans HG.out g)
  replace HP := Lib.hid (HP.out.grown g)
  replace HE := Lib.hid (HE.out.grown g)
  replace HF : Hid (SOwn w4 w.heap.size (some ⟨gF, 0, none⟩) (n + 70) cF (preS Es ++ Ms)) := Lib.hid (Own.ch HF.out (Ch.ofNone g (fun _ => False)) (fun _ _ _ h => h))
  replace HW1 := Lib.hid (grownBy_trans HW1.out g)
  replace HFB := Lib.hid (BOwn.grown HFB.out g)
  clear g
  have hcl : ∀ u, w4.grownBy u none → u.cell? ⟨b5, 0, none⟩ = some (.slice (some ⟨gF, 0, none⟩) n cF) := fun u hu => by
    have c0 := Row.cell (HP.out.grown hu) 0
    simpa using c0
  have HCL := Lib.hid hcl
  have hpl : ∀ u, w4.grownBy u none → LLies u (some ⟨gF, 0, none⟩) (preS Es) bs := fun u hu => (pre_lies HE.out HF.out).grown hu
  have HPL := Lib.hid hpl
  clear hcl hpl
  go_upto_region 4 with fail
  refine wp_regionX (fun u => w4.grownBy u none) 7 (by kernel_rfl) (grownBy_drewN w4 1 none) ?_
  refine wpX_take 0 (v := .pointer (some ⟨b5, 0, none⟩)) (oi := { dst := some 29, op := Op.fieldAddr 88 (Operand.tmp 5) 0, type := 0, pos := "law.go:80", after := #[], guard := none }) (oL := { dst := some 10, op := Op.assign (Operand.tmp 34), type := 22, pos := "law.go:80", after := #[{ on := 5, ground := Ground.data }, { on := 6, ground := Ground.chain }, { on := 0, ground := Ground.phase }, { on := 1, ground := Ground.phase }, { on := 2, ground := Ground.phase }, { on := 3, ground := Ground.phase }, { on := 4, ground := Ground.phase }, { on := 5, ground := Ground.phase }, { on := 6, ground := Ground.phase }], guard := none }) (clo_grown _) rfl rfl rfl (by kernel_rfl) (by kernel_rfl) (by kernel_rfl) (by kernel_rfl) (by kernel_rfl) (fun _ _ _ h => h) (YG.val (by rfl) (fun _ _ => by go_simp)) ?_
  simp only [Act.put, List.setIfInBounds_toArray, List.set_cons_zero, List.set_cons_succ]
  refine wpX_take 1 (v := .slice (some ⟨gF, 0, none⟩) n cF) (oi := { dst := some 30, op := Op.load 24 (Operand.tmp 29), type := 24, pos := "law.go:80", after := #[{ on := 0, ground := Ground.data }], guard := none }) (oL := { dst := some 10, op := Op.assign (Operand.tmp 34), type := 22, pos := "law.go:80", after := #[{ on := 5, ground := Ground.data }, { on := 6, ground := Ground.chain }, { on := 0, ground := Ground.phase }, { on := 1, ground := Ground.phase }, { on := 2, ground := Ground.phase }, { on := 3, ground := Ground.phase }, { on := 4, ground := Ground.phase }, { on := 5, ground := Ground.phase }, { on := 6, ground := Ground.phase }], guard := none }) (clo_grown _) rfl rfl rfl (by kernel_rfl) (by kernel_rfl) (by kernel_rfl) (by kernel_rfl) (by kernel_rfl) (fun _ _ _ h => h) (YG.val (by rfl) (fun u hu => by have c0 := HCL.out u hu; go_simp)) ?_
  simp only [Act.put, List.setIfInBounds_toArray, List.set_cons_zero, List.set_cons_succ]
  refine wpX_take 3 (v := .pointer (some ⟨b5, 0, none⟩)) (oi := { dst := some 32, op := Op.fieldAddr 88 (Operand.tmp 5) 0, type := 0, pos := "law.go:80", after := #[], guard := none }) (oL := { dst := some 10, op := Op.assign (Operand.tmp 34), type := 22, pos := "law.go:80", after := #[{ on := 5, ground := Ground.data }, { on := 6, ground := Ground.chain }, { on := 0, ground := Ground.phase }, { on := 1, ground := Ground.phase }, { on := 2, ground := Ground.phase }, { on := 3, ground := Ground.phase }, { on := 4, ground := Ground.phase }, { on := 5, ground := Ground.phase }, { on := 6, ground := Ground.phase }], guard := none }) (clo_grown _) rfl rfl rfl (by kernel_rfl) (by kernel_rfl) (by kernel_rfl) (by kernel_rfl) (by kernel_rfl) (fun _ _ _ h => h) (YG.val (by rfl) (fun _ _ => by go_simp)) ?_
  simp only [Act.put, List.setIfInBounds_toArray, List.set_cons_zero, List.set_cons_succ]
  refine wpX_take 4 (v := .slice (some ⟨gF, 0, none⟩) n cF) (oi := { dst := some 33, op := Op.load 24 (Operand.tmp 32), type := 24, pos := "law.go:80", after := #[{ on := 3, ground := Ground.data }], guard := none }) (oL := { dst := some 10, op := Op.assign (Operand.tmp 34), type := 22, pos := "law.go:80", after := #[{ on := 5, ground := Ground.data }, { on := 6, ground := Ground.chain }, { on := 0, ground := Ground.phase }, { on := 1, ground := Ground.phase }, { on := 2, ground := Ground.phase }, { on := 3, ground := Ground.phase }, { on := 4, ground := Ground.phase }, { on := 5, ground := Ground.phase }, { on := 6, ground := Ground.phase }], guard := none }) (clo_grown _) rfl rfl rfl (by kernel_rfl) (by kernel_rfl) (by kernel_rfl) (by kernel_rfl) (by kernel_rfl) (fun _ _ _ h => h) (YG.val (by rfl) (fun u hu => by have c0 := HCL.out u hu; go_simp)) ?_
  simp only [Act.put, List.setIfInBounds_toArray, List.set_cons_zero, List.set_cons_succ]
  refine wpX_step 2 (o := { dst := some 31, op := Op.call { callee := Callee.value (Operand.func 47), args := #[Operand.tmp 30], argTypes := #[24] }, type := 22, pos := "law.go:80", after := #[{ on := 1, ground := Ground.data }], guard := none }) rfl rfl (by kernel_rfl) (by rfl) (fun u2 hS2 K hK => ?_)
  have HK := Lib.hid hK
  have HS := Lib.hid hS2
  clear hK hS2
  refine wp_call_op (f := 47) (args := #[.slice (some ⟨gF, 0, none⟩) n cF]) (w1 := u2) (by go_simp) ((Hframed.out _ _ _ u2 (HPL.out u2 HS.out)).mono ?_)
  rintro e uf ⟨af, mf, cf, rfl, ho, g⟩
  have Guf := Lib.hid (grownBy_trans HS.out g)
  have Zuf := Lib.hid HS.out.size
  obtain rfl := BOwn.len ho
  have HXf := Lib.hid (BOwn.mono ho Zuf.out)
  have WIf := Lib.hid (BOwn.within HXf.out)
  clear ho
  refine ⟨_, rfl, HK.out (fun u => uf.grownBy u none) _ _ (World.grownBy.refl _ _) (fun u h => grownBy_trans Guf.out h) (clo_grown uf) ?_⟩
  clear HK HS g
  simp only [Act.put, List.setIfInBounds_toArray, List.set_cons_zero, List.set_cons_succ]
  refine wpX_step 5 (o := { dst := some 34, op := Op.call { callee := Callee.value (Operand.func 47), args := #[Operand.tmp 33], argTypes := #[24] }, type := 22, pos := "law.go:80", after := #[{ on := 4, ground := Ground.data }, { on := 2, ground := Ground.chain }], guard := none }) rfl rfl (by kernel_rfl) (by rfl) (fun u2 hS2 K hK => ?_)
  have HK := Lib.hid hK
  have HS := Lib.hid hS2
  clear hK hS2
  refine wp_call_op (f := 47) (args := #[.slice (some ⟨gF, 0, none⟩) n cF]) (w1 := u2) (by go_simp) ((Hframed.out _ _ _ u2 (HPL.out u2 (grownBy_trans Guf.out HS.out))).mono ?_)
  rintro e ug ⟨ag, mg, cg, rfl, ho, g⟩
  have Gug := Lib.hid (grownBy_trans HS.out g)
  have Zug := Lib.hid HS.out.size
  obtain rfl := BOwn.len ho
  have HXg := Lib.hid (BOwn.mono ho Zug.out)
  have WIg := Lib.hid (BOwn.within HXg.out)
  clear ho
  refine ⟨_, rfl, HK.out (fun u => ug.grownBy u none) _ _ (World.grownBy.refl _ _) (fun u h => grownBy_trans Gug.out h) (clo_grown ug) ?_⟩
  clear HK HS g
  simp only [Act.put, List.setIfInBounds_toArray, List.set_cons_zero, List.set_cons_succ]
  refine wpX_take 6 (v := .slice af FRM.length cf) (oi := { dst := some 9, op := Op.assign (Operand.tmp 31), type := 22, pos := "law.go:80", after := #[{ on := 2, ground := Ground.data }, { on := 5, ground := Ground.chain }, { on := 0, ground := Ground.phase }, { on := 1, ground := Ground.phase }, { on := 2, ground := Ground.phase }, { on := 3, ground := Ground.textOnly Departure.lateStores }, { on := 4, ground := Ground.textOnly Departure.lateStores }, { on := 5, ground := Ground.textOnly Departure.lateStoresUnsure }], guard := none }) (oL := { dst := some 10, op := Op.assign (Operand.tmp 34), type := 22, pos := "law.go:80", after := #[{ on := 5, ground := Ground.data }, { on := 6, ground := Ground.chain }, { on := 0, ground := Ground.phase }, { on := 1, ground := Ground.phase }, { on := 2, ground := Ground.phase }, { on := 3, ground := Ground.phase }, { on := 4, ground := Ground.phase }, { on := 5, ground := Ground.phase }, { on := 6, ground := Ground.phase }], guard := none }) (clo_grown _) rfl rfl rfl (by kernel_rfl) (by kernel_rfl) (by kernel_rfl) (by kernel_rfl) (by kernel_rfl) (fun _ _ _ h => h) (YG.val (by rfl) (fun _ _ => rfl)) ?_
  simp only [Act.put, List.setIfInBounds_toArray, List.set_cons_zero, List.set_cons_succ]
  refine wpX_last (oL := { dst := some 10, op := Op.assign (Operand.tmp 34), type := 22, pos := "law.go:80", after := #[{ on := 5, ground := Ground.data }, { on := 6, ground := Ground.chain }, { on := 0, ground := Ground.phase }, { on := 1, ground := Ground.phase }, { on := 2, ground := Ground.phase }, { on := 3, ground := Ground.phase }, { on := 4, ground := Ground.phase }, { on := 5, ground := Ground.phase }, { on := 6, ground := Ground.phase }], guard := none }) rfl (by kernel_rfl) (by kernel_rfl) (by rfl) (fun u4 hS4 K4 hK4 => ?_)
  refine wp_val_op (v := .slice ag FRM.length cg) (w1 := u4) (by rfl) (hK4 _ _ ?_)
  simp only [Act.put, List.setIfInBounds_toArray, List.set_cons_zero, List.set_cons_succ]
  have g := grownBy_trans (grownBy_trans Guf.out Gug.out) hS4
  have gx := grownBy_trans Gug.out hS4
  obtain ⟨w5, hwn⟩ : ∃ w5, w5 = u4 := ⟨_, rfl⟩
  rw [← hwn] at hS4 g gx ⊢
  replace HXf := Lib.hid (BOwn.grown HXf.out gx)
  replace HXg := Lib.hid (BOwn.grown HXg.out hS4)
  have ZAf := Lib.hid Guf.out.size
  have ZBf := Lib.hid gx.size
  have ZCf := Lib.hid hS4.size
  clear hwn hS4 gx hK4 HCL HPL Guf Gug
  have Z5 := Lib.hid g.size
  replace HG := Lib.hid (grownBy_trans HG.out g)
  replace HP := Lib.hid (HP.out.grown g)
  replace HE := Lib.hid (HE.out.grown g)
  replace HF : Hid (SOwn w5 w.heap.size (some ⟨gF, 0, none⟩) (n + 70) cF (preS Es ++ Ms)) := Lib.hid (Own.ch HF.out (Ch.ofNone g (fun _ => False)) (fun _ _ _ h => h))
  replace HW1 := Lib.hid (grownBy_trans HW1.out g)
  replace HFB := Lib.hid (BOwn.grown HFB.out g)
  replace HXj := Lib.hid (BOwn.grown HXj.out g)
  replace HXk := Lib.hid (BOwn.grown HXk.out g)
  clear g
  have hpre := HFB.out.lies.take m
  rw [lent_take lb m HM.out] at hpre
  have HPRE := Lib.hid hpre
  clear hpre
  go_wp2_with (first | (refine wpList_valp rfl (run_pre_op _ _ (.tmp 36) (.tmp 38) rfl gB (m + 70) cB m rfl rfl (by omega)) ?_))
  refine (HU1.out _ _ _ HPRE.out).mono ?_
  rintro e w6 ⟨al, cl, Ll, rfl, hl, g⟩
  have HLl := Lib.hid hl
  have WOl := Lib.hid hl.boxO
  have WLl := Lib.hid hl.boxI
  clear hl HPRE
  have Z6 := Lib.hid g.size
  replace HG := Lib.hid (grownBy_trans HG.out g)
  replace HP := Lib.hid (HP.out.grown g)
  replace HE := Lib.hid (HE.out.grown g)
  replace HF : Hid (SOwn w6 w.heap.size (some ⟨gF, 0, none⟩) (n + 70) cF (preS Es ++ Ms)) := Lib.hid (Own.ch HF.out (Ch.ofNone g (fun _ => False)) (fun _ _ _ h => h))
  replace HW1 := Lib.hid (grownBy_trans HW1.out g)
  replace HFB := Lib.hid (BOwn.grown HFB.out g)
  replace HXj := Lib.hid (BOwn.grown HXj.out g)
  replace HXk := Lib.hid (BOwn.grown HXk.out g)
  replace HXf := Lib.hid (BOwn.grown HXf.out g)
  replace HXg := Lib.hid (BOwn.grown HXg.out g)
  clear g
  have hpre := HFB.out.lies.take m
  rw [lent_take lb m HM.out] at hpre
  have HPRE := Lib.hid hpre
  clear hpre
  go_wp2_with (first | (refine wpList_valp rfl (run_pre_op _ _ (.tmp 44) (.tmp 46) rfl gB (m + 70) cB m rfl rfl (by omega)) ?_))
  refine (HU1.out _ _ _ HPRE.out).mono ?_
  rintro e w7 ⟨am, cm, Lm, rfl, hl, g⟩
  have HLm := Lib.hid hl
  have WOm := Lib.hid hl.boxO
  have WLm := Lib.hid hl.boxI
  clear hl HPRE
  have Z7 := Lib.hid g.size
  replace HG := Lib.hid (grownBy_trans HG.out g)
  replace HP := Lib.hid (HP.out.grown g)
  replace HE := Lib.hid (HE.out.grown g)
  replace HF : Hid (SOwn w7 w.heap.size (some ⟨gF, 0, none⟩) (n + 70) cF (preS Es ++ Ms)) := Lib.hid (Own.ch HF.out (Ch.ofNone g (fun _ => False)) (fun _ _ _ h => h))
  replace HW1 := Lib.hid (grownBy_trans HW1.out g)
  replace HFB := Lib.hid (BOwn.grown HFB.out g)
  replace HXj := Lib.hid (BOwn.grown HXj.out g)
  replace HXk := Lib.hid (BOwn.grown HXk.out g)
  replace HXf := Lib.hid (BOwn.grown HXf.out g)
  replace HXg := Lib.hid (BOwn.grown HXg.out g)
  replace HLl := Lib.hid (HLl.out.grown g)
  clear g
  have hM : ∀ i (h : i < Ms.length), BOwn w7 w.heap.size (Ms[i]).a 2 (Ms[i]).c [UInt8.ofNat i, 99] ∧ (Ms[i]).n = 2 := fun i h => by
    obtain ⟨h1, h2⟩ := HM0.out i h
    have hgg : w1.grownBy w7 none := HW1.out
    exact ⟨BOwn.grown h1 hgg, h2⟩
  have HMM := Lib.hid hM
  clear hM
  go_wp2_with (first | (refine wpList_load_row rfl 88 _ rfl b5 rfl 88 #[.slice (some ⟨gF, 0, none⟩) n cF, .slice (some ⟨gF, 0, none⟩) (n + 70) cF, .slice aE n cE] (0, 0) _ HP.out Try.underlying88 rfl (by kernel_rfl) ?_))
  refine (keptLists_yes (some ⟨gF, 0, none⟩) aE a w.heap.size cF cE c n Es Ms L bs _ HE.out HF.out HML.out HMM.out (HA.out.grown HG.out) HN.out (fun p hp => by have := HB.out p hp; omega) (by omega)).mono ?_
  rintro e w8 ⟨rfl, g⟩
  have Z8 := Lib.hid g.size
  replace HG := Lib.hid (grownBy_trans HG.out g)
  replace HP := Lib.hid (HP.out.grown g)
  replace HE := Lib.hid (HE.out.grown g)
  replace HF : Hid (SOwn w8 w.heap.size (some ⟨gF, 0, none⟩) (n + 70) cF (preS Es ++ Ms)) := Lib.hid (Own.ch HF.out (Ch.ofNone g (fun _ => False)) (fun _ _ _ h => h))
  replace HW1 := Lib.hid (grownBy_trans HW1.out g)
  replace HFB := Lib.hid (BOwn.grown HFB.out g)
  replace HXj := Lib.hid (BOwn.grown HXj.out g)
  replace HXk := Lib.hid (BOwn.grown HXk.out g)
  replace HXf := Lib.hid (BOwn.grown HXf.out g)
  replace HXg := Lib.hid (BOwn.grown HXg.out g)
  replace HLl := Lib.hid (HLl.out.grown g)
  replace HLm := Lib.hid (HLm.out.grown g)
  clear g
  go_wp2_with fail
  refine (kept_yes _ _ _ _ m _ lb _ (BOwn.lies HFB.out) (HBL.out.grown HG.out) HM.out rfl (by omega)).mono ?_
  rintro e w9 ⟨rfl, g⟩
  have Z9 := Lib.hid g.size
  replace HG := Lib.hid (grownBy_trans HG.out g)
  replace HP := Lib.hid (HP.out.grown g)
  replace HE := Lib.hid (HE.out.grown g)
  replace HF : Hid (SOwn w9 w.heap.size (some ⟨gF, 0, none⟩) (n + 70) cF (preS Es ++ Ms)) := Lib.hid (Own.ch HF.out (Ch.ofNone g (fun _ => False)) (fun _ _ _ h => h))
  replace HW1 := Lib.hid (grownBy_trans HW1.out g)
  replace HFB := Lib.hid (BOwn.grown HFB.out g)
  replace HXj := Lib.hid (BOwn.grown HXj.out g)
  replace HXk := Lib.hid (BOwn.grown HXk.out g)
  replace HXf := Lib.hid (BOwn.grown HXf.out g)
  replace HXg := Lib.hid (BOwn.grown HXg.out g)
  replace HLl := Lib.hid (HLl.out.grown g)
  replace HLm := Lib.hid (HLm.out.grown g)
  clear g
  clear HMM HM0 HW1
  go_wp2_with (first | (refine wpList_load_row rfl 88 _ rfl b5 rfl 88 #[.slice (some ⟨gF, 0, none⟩) n cF, .slice (some ⟨gF, 0, none⟩) (n + 70) cF, .slice aE n cE] (0, 0) _ HP.out Try.underlying88 rfl (by kernel_rfl) ?_))
  refine (overLists_n aE w.heap.size b5 gF cF cE n Es (preS Es ++ Ms) (bs.map lent) _ HE.out HF.out HTE.out hgF2 (fun b hb => by
    rw [List.mem_map] at hb
    obtain ⟨b', hb', rfl⟩ := hb
    have h1 := lent_length b'
    have h2 := HB.out b' hb'
    omega) (by have h1 := HP.out.lt; omega) (by omega)).mono ?_
  rintro e w10 ⟨rfl, _, hch⟩
  have Z10 := Lib.hid hch.size
  replace HG := Lib.hid (Ch.fresh HG.out hch (fun g hg h => by omega))
  replace HFB : Hid (BOwn w10 w2.heap.size (some ⟨gB, 0, none⟩) (m + 70) cB (lent lb)) := Lib.hid (Own.ch HFB.out hch (fun h0 g e h => by
    have h1 := (Own.inn HFB.out (g := g) ⟨h0, e⟩).1
    omega))
  replace HXj : Hid (BOwn w10 w3.heap.size aj J.length cj J) := Lib.hid (Own.ch HXj.out hch (fun h0 g e h => by
    have h1 := (Own.inn HXj.out (g := g) ⟨h0, e⟩).1
    have z3 := Z3.out; have z4 := Z4.out; have y1 := YgB.out; have q1 := ZAj.out; have q2 := ZAf.out
    omega))
  replace HXk : Hid (BOwn w10 uj.heap.size ak J.length ck J) := Lib.hid (Own.ch HXk.out hch (fun h0 g e h => by
    have h1 := (Own.inn HXk.out (g := g) ⟨h0, e⟩).1
    have z3 := Z3.out; have z4 := Z4.out; have y1 := YgB.out; have q1 := ZAj.out; have q2 := ZAf.out
    omega))
  replace HXf : Hid (BOwn w10 w4.heap.size af FRM.length cf FRM) := Lib.hid (Own.ch HXf.out hch (fun h0 g e h => by
    have h1 := (Own.inn HXf.out (g := g) ⟨h0, e⟩).1
    have z3 := Z3.out; have z4 := Z4.out; have y1 := YgB.out; have q1 := ZAj.out; have q2 := ZAf.out
    omega))
  replace HXg : Hid (BOwn w10 uf.heap.size ag FRM.length cg FRM) := Lib.hid (Own.ch HXg.out hch (fun h0 g e h => by
    have h1 := (Own.inn HXg.out (g := g) ⟨h0, e⟩).1
    have z3 := Z3.out; have z4 := Z4.out; have y1 := YgB.out; have q1 := ZAj.out; have q2 := ZAf.out
    omega))
  replace HLl := Lib.hid (LIs.ch HLl.out hch (fun g hi h => by
    have h1 := (Own.inn HLl.out.outer hi).1
    have z3 := Z3.out; have z4 := Z4.out; have z5 := Z5.out
    omega) (fun i hi g hg h => by
    have h1 := (Own.inn (HLl.out.inner i hi (by have := HLl.out.len; omega)) hg).1
    have z3 := Z3.out; have z4 := Z4.out; have z5 := Z5.out
    omega))
  replace HLm := Lib.hid (LIs.ch HLm.out hch (fun g hi h => by
    have h1 := (Own.inn HLm.out.outer hi).1
    have z3 := Z3.out; have z4 := Z4.out; have z5 := Z5.out; have z6 := Z6.out
    omega) (fun i hi g hg h => by
    have h1 := (Own.inn (HLm.out.inner i hi (by have := HLm.out.len; omega)) hg).1
    have z3 := Z3.out; have z4 := Z4.out; have z5 := Z5.out; have z6 := Z6.out
    omega))
  clear hch HE HF HE0 HF0 HTE HP
  go_wp2_with fail
  refine (over_n _ gB cB (m + 70) (lent lb) _ HFB.out (by omega)).mono ?_
  rintro e w11 ⟨rfl, oO, g⟩
  have Z11 := Lib.hid g.size
  replace HG := Lib.hid (grownBy_old HG.out g (by have y1 := YgB.out; omega))
  replace HXj : Hid (BOwn w11 w3.heap.size aj J.length cj J) := Lib.hid (Own.grownNe HXj.out g (fun q hc hq hr => by
    have h1 := (Own.inn HXj.out (g := q) ⟨hc, hq⟩).1
    injection hr with hr
    have z3 := Z3.out; have z4 := Z4.out; have y1 := YgB.out; have q1 := ZAj.out; have q2 := ZAf.out
    omega))
  replace HXk : Hid (BOwn w11 uj.heap.size ak J.length ck J) := Lib.hid (Own.grownNe HXk.out g (fun q hc hq hr => by
    have h1 := (Own.inn HXk.out (g := q) ⟨hc, hq⟩).1
    injection hr with hr
    have z3 := Z3.out; have z4 := Z4.out; have y1 := YgB.out; have q1 := ZAj.out; have q2 := ZAf.out
    omega))
  replace HXf : Hid (BOwn w11 w4.heap.size af FRM.length cf FRM) := Lib.hid (Own.grownNe HXf.out g (fun q hc hq hr => by
    have h1 := (Own.inn HXf.out (g := q) ⟨hc, hq⟩).1
    injection hr with hr
    have z3 := Z3.out; have z4 := Z4.out; have y1 := YgB.out; have q1 := ZAj.out; have q2 := ZAf.out
    omega))
  replace HXg : Hid (BOwn w11 uf.heap.size ag FRM.length cg FRM) := Lib.hid (Own.grownNe HXg.out g (fun q hc hq hr => by
    have h1 := (Own.inn HXg.out (g := q) ⟨hc, hq⟩).1
    injection hr with hr
    have z3 := Z3.out; have z4 := Z4.out; have y1 := YgB.out; have q1 := ZAj.out; have q2 := ZAf.out
    omega))
  replace HLl := Lib.hid (LIs.ch HLl.out (Ch.ofSome (S := fun k => k = gB) g rfl) (fun g hi h => by
    have h1 := (Own.inn HLl.out.outer hi).1
    have y1 := YgB.out; have z3 := Z3.out; have z4 := Z4.out; have z5 := Z5.out
    omega) (fun i hi g hg h => by
    have h1 := (Own.inn (HLl.out.inner i hi (by have := HLl.out.len; omega)) hg).1
    have y1 := YgB.out; have z3 := Z3.out; have z4 := Z4.out; have z5 := Z5.out
    omega))
  replace HLm := Lib.hid (LIs.ch HLm.out (Ch.ofSome (S := fun k => k = gB) g rfl) (fun g hi h => by
    have h1 := (Own.inn HLm.out.outer hi).1
    have y1 := YgB.out; have z3 := Z3.out; have z4 := Z4.out; have z5 := Z5.out; have z6 := Z6.out
    omega) (fun i hi g hg h => by
    have h1 := (Own.inn (HLm.out.inner i hi (by have := HLm.out.len; omega)) hg).1
    have y1 := YgB.out; have z3 := Z3.out; have z4 := Z4.out; have z5 := Z5.out; have z6 := Z6.out
    omega))
  clear oO g HFB
  go_wp2_with fail
  refine (HJ2.out _ _ _ _ (HA.out.grown HG.out)).mono ?_
  rintro e w12 ⟨aw, mw, cw, rfl, ho, g⟩
  obtain rfl := BOwn.len ho
  have HXw := Lib.hid ho
  clear ho
  have Z12 := Lib.hid g.size
  replace HG := Lib.hid (grownBy_trans HG.out g)
  replace HXj := Lib.hid (BOwn.grown HXj.out g)
  replace HXk := Lib.hid (BOwn.grown HXk.out g)
  replace HXf := Lib.hid (BOwn.grown HXf.out g)
  replace HXg := Lib.hid (BOwn.grown HXg.out g)
  replace HLl := Lib.hid (HLl.out.grown g)
  replace HLm := Lib.hid (HLm.out.grown g)
  clear g
  go_wp2_with fail
  refine (HF2.out _ _ _ _ (HA.out.grown HG.out)).mono ?_
  rintro e w13 ⟨av, mv, cv, rfl, ho, g⟩
  obtain rfl := BOwn.len ho
  have HXv := Lib.hid ho
  clear ho
  have Z13 := Lib.hid g.size
  replace HG := Lib.hid (grownBy_trans HG.out g)
  replace HXj := Lib.hid (BOwn.grown HXj.out g)
  replace HXk := Lib.hid (BOwn.grown HXk.out g)
  replace HXf := Lib.hid (BOwn.grown HXf.out g)
  replace HXg := Lib.hid (BOwn.grown HXg.out g)
  replace HLl := Lib.hid (HLl.out.grown g)
  replace HLm := Lib.hid (HLm.out.grown g)
  replace HXw := Lib.hid (BOwn.grown HXw.out g)
  clear g
  go_wp2_with fail
  refine (HU2.out _ _ _ (HBL.out.grown HG.out) hmc).mono ?_
  rintro e w14 ⟨au, cu, Lu, rfl, hl, g⟩
  have HLu := Lib.hid hl
  clear hl
  have Z14 := Lib.hid g.size
  replace HG := Lib.hid (grownBy_trans HG.out g)
  replace HXj := Lib.hid (BOwn.grown HXj.out g)
  replace HXk := Lib.hid (BOwn.grown HXk.out g)
  replace HXf := Lib.hid (BOwn.grown HXf.out g)
  replace HXg := Lib.hid (BOwn.grown HXg.out g)
  replace HLl := Lib.hid (HLl.out.grown g)
  replace HLm := Lib.hid (HLm.out.grown g)
  replace HXw := Lib.hid (BOwn.grown HXw.out g)
  replace HXv := Lib.hid (BOwn.grown HXv.out g)
  clear g
  go_wp2_with fail
  refine (sameLists_n al au cl cu U.length U.length Ll Lu U U _ (LIs.liesT HLl.out) (LIs.liesT HLu.out) rfl rfl (by have := BN.out; unfold maxLen; omega) (fun p hp => by have := BU.out p hp; unfold maxLen; omega)).mono ?_
  rintro e w15 ⟨rfl, q, hq⟩
  rw [decide_eq_true (rfl : U = U)]
  have g : w14.grownBy w15 none := by rw [hq]; exact grownBy_drewN _ _ _
  clear hq q
  have Z15 := Lib.hid g.size
  replace HG := Lib.hid (grownBy_trans HG.out g)
  replace HXj := Lib.hid (BOwn.grown HXj.out g)
  replace HXk := Lib.hid (BOwn.grown HXk.out g)
  replace HXf := Lib.hid (BOwn.grown HXf.out g)
  replace HXg := Lib.hid (BOwn.grown HXg.out g)
  replace HLl := Lib.hid (HLl.out.grown g)
  replace HLm := Lib.hid (HLm.out.grown g)
  replace HXw := Lib.hid (BOwn.grown HXw.out g)
  replace HXv := Lib.hid (BOwn.grown HXv.out g)
  replace HLu := Lib.hid (HLu.out.grown g)
  clear g
  go_wp2_with fail
  refine (sameLists_n am au cm cu U.length U.length Lm Lu U U _ (LIs.liesT HLm.out) (LIs.liesT HLu.out) rfl rfl (by have := BN.out; unfold maxLen; omega) (fun p hp => by have := BU.out p hp; unfold maxLen; omega)).mono ?_
  rintro e w16 ⟨rfl, q, hq⟩
  rw [decide_eq_true (rfl : U = U)]
  have g : w15.grownBy w16 none := by rw [hq]; exact grownBy_drewN _ _ _
  clear hq q
  have Z16 := Lib.hid g.size
  replace HG := Lib.hid (grownBy_trans HG.out g)
  replace HXj := Lib.hid (BOwn.grown HXj.out g)
  replace HXk := Lib.hid (BOwn.grown HXk.out g)
  replace HXf := Lib.hid (BOwn.grown HXf.out g)
  replace HXg := Lib.hid (BOwn.grown HXg.out g)
  replace HLl := Lib.hid (HLl.out.grown g)
  replace HLm := Lib.hid (HLm.out.grown g)
  replace HXw := Lib.hid (BOwn.grown HXw.out g)
  replace HXv := Lib.hid (BOwn.grown HXv.out g)
  replace HLu := Lib.hid (HLu.out.grown g)
  clear g
  go_wp2_with fail
  refine (same_yes _ _ _ _ _ _ J _ (BOwn.lies HXj.out) (BOwn.lies HXw.out) rfl rfl (Nat.le_trans BJ.out (by decide))).mono ?_
  rintro e w17 ⟨rfl, q, hq⟩
  have g : w16.grownBy w17 none := by rw [hq]; exact grownBy_drewN _ _ _
  clear hq q
  have Z17 := Lib.hid g.size
  replace HG := Lib.hid (grownBy_trans HG.out g)
  replace HXj := Lib.hid (BOwn.grown HXj.out g)
  replace HXk := Lib.hid (BOwn.grown HXk.out g)
  replace HXf := Lib.hid (BOwn.grown HXf.out g)
  replace HXg := Lib.hid (BOwn.grown HXg.out g)
  replace HLl := Lib.hid (HLl.out.grown g)
  replace HLm := Lib.hid (HLm.out.grown g)
  replace HXw := Lib.hid (BOwn.grown HXw.out g)
  replace HXv := Lib.hid (BOwn.grown HXv.out g)
  replace HLu := Lib.hid (HLu.out.grown g)
  clear g
  go_wp2_with fail
  refine (same_yes _ _ _ _ _ _ J _ (BOwn.lies HXk.out) (BOwn.lies HXw.out) rfl rfl (Nat.le_trans BJ.out (by decide))).mono ?_
  rintro e w18 ⟨rfl, q, hq⟩
  have g : w17.grownBy w18 none := by rw [hq]; exact grownBy_drewN _ _ _
  clear hq q
  have Z18 := Lib.hid g.size
  replace HG := Lib.hid (grownBy_trans HG.out g)
  replace HXj := Lib.hid (BOwn.grown HXj.out g)
  replace HXk := Lib.hid (BOwn.grown HXk.out g)
  replace HXf := Lib.hid (BOwn.grown HXf.out g)
  replace HXg := Lib.hid (BOwn.grown HXg.out g)
  replace HLl := Lib.hid (HLl.out.grown g)
  replace HLm := Lib.hid (HLm.out.grown g)
  replace HXw := Lib.hid (BOwn.grown HXw.out g)
  replace HXv := Lib.hid (BOwn.grown HXv.out g)
  replace HLu := Lib.hid (HLu.out.grown g)
  clear g
  go_wp2_with fail
  refine (same_yes _ _ _ _ _ _ FRM _ (BOwn.lies HXf.out) (BOwn.lies HXv.out) rfl rfl (Nat.le_trans BF.out (by decide))).mono ?_
  rintro e w19 ⟨rfl, q, hq⟩
  have g : w18.grownBy w19 none := by rw [hq]; exact grownBy_drewN _ _ _
  clear hq q
  have Z19 := Lib.hid g.size
  replace HG := Lib.hid (grownBy_trans HG.out g)
  replace HXj := Lib.hid (BOwn.grown HXj.out g)
  replace HXk := Lib.hid (BOwn.grown HXk.out g)
  replace HXf := Lib.hid (BOwn.grown HXf.out g)
  replace HXg := Lib.hid (BOwn.grown HXg.out g)
  replace HLl := Lib.hid (HLl.out.grown g)
  replace HLm := Lib.hid (HLm.out.grown g)
  replace HXw := Lib.hid (BOwn.grown HXw.out g)
  replace HXv := Lib.hid (BOwn.grown HXv.out g)
  replace HLu := Lib.hid (HLu.out.grown g)
  clear g
  go_wp2_with fail
  refine (same_yes _ _ _ _ _ _ FRM _ (BOwn.lies HXg.out) (BOwn.lies HXv.out) rfl rfl (Nat.le_trans BF.out (by decide))).mono ?_
  rintro e w20 ⟨rfl, q, hq⟩
  have g : w19.grownBy w20 none := by rw [hq]; exact grownBy_drewN _ _ _
  clear hq q
  have Z20 := Lib.hid g.size
  replace HG := Lib.hid (grownBy_trans HG.out g)
  replace HXj := Lib.hid (BOwn.grown HXj.out g)
  replace HXk := Lib.hid (BOwn.grown HXk.out g)
  replace HXf := Lib.hid (BOwn.grown HXf.out g)
  replace HXg := Lib.hid (BOwn.grown HXg.out g)
  replace HLl := Lib.hid (HLl.out.grown g)
  replace HLm := Lib.hid (HLm.out.grown g)
  replace HXw := Lib.hid (BOwn.grown HXw.out g)
  replace HXv := Lib.hid (BOwn.grown HXv.out g)
  replace HLu := Lib.hid (HLu.out.grown g)
  clear g
  go_wp2_with fail
  have zr : w.heap.size ≤ w20.heap.size := HG.out.size
  have z1 := Z1.out
  have z2 := Z2.out
  have z3 := Z3.out
  have z4 := Z4.out
  have z5 := Z5.out
  have z6 := Z6.out
  have z7 := Z7.out
  have z8 := Z8.out
  have z9 := Z9.out
  have z10 := Z10.out
  have z11 := Z11.out
  have z12 := Z12.out
  have z13 := Z13.out
  have z14 := Z14.out
  have z15 := Z15.out
  have z16 := Z16.out
  have z17 := Z17.out
  have z18 := Z18.out
  have z19 := Z19.out
  have z20 := Z20.out
  have zaj := ZAj.out
  have zbj := ZBj.out
  have zcj := ZCj.out
  have zaf := ZAf.out
  have zbf := ZBf.out
  have zcf := ZCf.out
  have hst := tst1_lit (w := w20) (base := w.heap.size) (L := [⟨aj, J.length, cj⟩, ⟨ak, J.length, ck⟩, ⟨af, FRM.length, cf⟩, ⟨ag, FRM.length, cg⟩])
    (fun j hj => match j, hj with
      | 0, _ => ⟨_, HXj.out.mono (by omega)⟩
      | 1, _ => ⟨_, HXk.out.mono (by omega)⟩
      | 2, _ => ⟨_, HXf.out.mono (by omega)⟩
      | 3, _ => ⟨_, HXg.out.mono (by omega)⟩) zr 4 rfl (by decide)
  have hd : Distinct [⟨aj, J.length, cj⟩, ⟨ak, J.length, ck⟩, ⟨af, FRM.length, cf⟩, ⟨ag, FRM.length, cg⟩] := by
    apply distinct_pairsT
    simp only [List.pairwise_cons, List.mem_cons, List.not_mem_nil, or_false, forall_eq_or_imp, forall_eq, List.Pairwise.nil, and_true, false_implies, implies_true]
    exact ⟨⟨Sl.offT_win WIj.out WIk.out (Nat.le_refl _), Sl.offT_win WIj.out WIf.out (by omega), Sl.offT_win WIj.out WIg.out (by omega)⟩, ⟨Sl.offT_win WIk.out WIf.out (by omega), Sl.offT_win WIk.out WIg.out (by omega)⟩, Sl.offT_win WIf.out WIg.out (Nat.le_refl _)⟩
  have hwi : ∀ j (hj : j < ([⟨aj, J.length, cj⟩, ⟨ak, J.length, ck⟩, ⟨af, FRM.length, cf⟩, ⟨ag, FRM.length, cg⟩] : List Sl).length), (([⟨aj, J.length, cj⟩, ⟨ak, J.length, ck⟩, ⟨af, FRM.length, cf⟩, ⟨ag, FRM.length, cg⟩] : List Sl)[j]).within w3.heap.size w5.heap.size := fun j hj => match j, hj with
      | 0, _ => Sl.within_mono WIj.out (by omega) (by omega)
      | 1, _ => Sl.within_mono WIk.out (by omega) (by omega)
      | 2, _ => Sl.within_mono WIf.out (by omega) (by omega)
      | 3, _ => Sl.within_mono WIg.out (by omega) (by omega)
  refine (apartT_n _ _ _ 4 _ _ hst (by simp; omega) hd rfl (by omega) (fun j hj => match j, hj with
      | 0, _ => (by show J.length ≤ 100000000; have := BJ.out; omega)
      | 1, _ => (by show J.length ≤ 100000000; have := BJ.out; omega)
      | 2, _ => (by show FRM.length ≤ 100000000; have := BF.out; omega)
      | 3, _ => (by show FRM.length ≤ 100000000; have := BF.out; omega))).mono ?_
  rintro e wz ⟨rfl, hbel⟩
  have ga := World.grownBy_alloc w20 (.cells (([⟨aj, J.length, cj⟩, ⟨ak, J.length, ck⟩, ⟨af, FRM.length, cf⟩, ⟨ag, FRM.length, cg⟩] : List Sl).map Sl.val).toArray 22) none
  have GZ := Lib.hid (grown_below (grownBy_trans HG.out ga) hbel.toBelow (Nat.le_refl _))
  have hll := LIs.keptT (HLl.out.grown ga) hbel hwi (Nat.le_refl _)
  have hlm := LIs.keptT (HLm.out.grown ga) hbel hwi (by omega)
  have HLL := Lib.hid hll
  have HLM := Lib.hid hlm
  have zz : w20.heap.size ≤ wz.heap.size := Nat.le_trans ga.size hbel.toBelow.size
  clear hbel hd hst hwi ga hll hlm
  go_wp2_with fail
  refine (apartLists_lit wz w.heap.size [⟨al, U.length, cl⟩, ⟨am, U.length, cm⟩] [Ll, Lm] (fun | 0 => w5.heap.size | 1 => w6.heap.size | _ => w7.heap.size)
    (fun i hi => match i, hi with
      | 0, _ => (by show w5.heap.size ≤ w6.heap.size; omega)
      | 1, _ => (by show w6.heap.size ≤ w7.heap.size; omega)) (by show w.heap.size ≤ w5.heap.size; omega) (by omega)
    (fun i hi hi' => match i, hi, hi' with
      | 0, _, _ => ⟨⟨_, HLL.out⟩, WOl.out, WLl.out⟩
      | 1, _, _ => ⟨⟨_, HLM.out⟩, WOm.out, WLm.out⟩) rfl 2 rfl (by omega) ?_ ?_).mono ?_
  · have h1 := HLL.out.len
    have h2 := HLM.out.len
    have h3 := BN.out
    simp only [List.flatten_cons, List.flatten_nil, List.append_nil, List.length_append]
    omega
  · intro L hL s hs
    simp only [List.mem_cons, List.not_mem_nil, or_false] at hL
    rcases hL with rfl | rfl
    · obtain ⟨i, hi, rfl⟩ := List.getElem_of_mem hs
      have h1 := HLL.out.len
      have h2 := (HLL.out.liesT.2.2 i hi (by omega)).2
      have h3 := BU.out _ (List.getElem_mem (show i < U.length by omega))
      omega
    · obtain ⟨i, hi, rfl⟩ := List.getElem_of_mem hs
      have h1 := HLM.out.len
      have h2 := (HLM.out.liesT.2.2 i hi (by omega)).2
      have h3 := BU.out _ (List.getElem_mem (show i < U.length by omega))
      omega
  rintro e wy ⟨rfl, hbel⟩
  have GY := Lib.hid (grown_below (grownBy_trans GZ.out (World.grownBy_alloc wz (.cells (([⟨al, U.length, cl⟩, ⟨am, U.length, cm⟩] : List Sl).map Sl.val).toArray 24) none)) hbel (Nat.le_refl _))
  clear hbel
  go_wp2_with fail
  go_ret
  exact ⟨rfl, GY.out⟩

end Go.Proofs.Ythemlaibjchjpaa
