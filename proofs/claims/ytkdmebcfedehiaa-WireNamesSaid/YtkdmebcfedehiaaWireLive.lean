/- wire: a reply of two numbers as bytes, a reply of one byte out of its bytes: what 'lives' asks. -/
import Derived.Test.YtkdmebcfedehiaaSmall32
import Derived.Test.YtkdmebcfedehiaaClone
import Derived.Test.YtkdmebcfedehiaaSame
import Derived.Test.YtkdmebcfedehiaaBox
import Derived.Test.YtkdmebcfedehiaaCh
namespace Go.Proofs.Ytkdmebcfedehiaa
open Go.RowKit

set_option maxRecDepth 100000 in
set_option maxHeartbeats 1000000 in
theorem number_n (x : Int) (w : World) : Calls Try.prog 26 #[.int .i64 x] w fun e w' => e = .returned (.bool (decide (0 ≤ x) && decide (x < 255))) ∧ w = w' := by
  by_cases h : 0 ≤ x
  · have h1 : decide (0 ≤ x) = true := by simpa using h
    rw [h1, Bool.true_and]
    go_enter Try.func26, Try.ntmps26
    go_wp2
    go_ret
    exact ⟨rfl, rfl⟩
  · have h1 : decide (0 ≤ x) = false := by simpa using h
    rw [h1, Bool.false_and]
    go_enter Try.func26, Try.ntmps26
    go_wp2
    go_ret
    exact ⟨rfl, rfl⟩

set_option maxRecDepth 100000 in
set_option maxHeartbeats 1000000 in
theorem mayTell_a (g : Nat) (w : World) (h : Row w g 3 #[.int .i64 0, .int .i64 3]) :
    Calls Try.prog 22 #[.agg #[.int .u8 1, .slice (some ⟨g, 0, none⟩) 2 2, .slice none 0 0]] w fun e w' => e = .returned (.bool true) ∧ w.grownBy w' none := by
  have H := Lib.hid h
  clear h
  go_enter Try.func22, Try.ntmps22
  go_wp2_with (refine wpList_boxed rfl rfl #[.int .u8 1, .slice (some ⟨g, 0, none⟩) 2 2, .slice none 0 0] rfl ?_; intro wb hsb hgb hrb; have c0 := Row.cell hrb 0; have c1 := Row.cell hrb 1; have c2 := Row.cell hrb 2; have d0 := Row.cell (H.out.grown hgb) 0; have d1 := Row.cell (H.out.grown hgb) 1; simp at c0 c1 c2 d0 d1; have HG := Lib.hid hgb; clear hsb hgb hrb)
  go_loopw [32] (fun vi wr => ∃ k : Nat, k ≤ 2 ∧ vi = .int .i64 k ∧ wr = wb) (fun vi _ => 2 - (intOf vi).toNat)
  case atStart => exact ⟨0, by omega, rfl, rfl⟩
  case round =>
    obtain ⟨k, hk, rfl, rfl⟩ := hrel
    rcases (by omega : k = 0 ∨ k = 1 ∨ k = 2) with rfl | rfl | rfl
    · rw [show ((0 : Nat) : Int) = 0 from rfl]
      go_wp2_with fail
      refine (number_n 0 _).mono ?_
      rintro e w' ⟨rfl, rfl⟩
      go_wp2_with fail
      go_roundw
      case rel => exact ⟨1, by omega, by first | rfl | go_num, by first | rfl | trivial⟩
      case measure => simp [intOf]
    · rw [show ((1 : Nat) : Int) = 1 from rfl]
      go_wp2_with fail
      refine (number_n 3 _).mono ?_
      rintro e w' ⟨rfl, rfl⟩
      go_wp2_with fail
      go_roundw
      case rel => exact ⟨2, by omega, by first | rfl | go_num, by first | rfl | trivial⟩
      case measure => simp [intOf]
    · rw [show ((2 : Nat) : Int) = 2 from rfl]
      go_wp2_with fail
      go_ret
      exact ⟨rfl, HG.out⟩

set_option maxRecDepth 100000 in
set_option maxHeartbeats 1000000 in
theorem putReply_a (g : Nat) (w : World) (h : Row w g 3 #[.int .i64 0, .int .i64 3]) :
    Calls Try.prog 9 #[.agg #[.int .u8 1, .slice (some ⟨g, 0, none⟩) 2 2, .slice none 0 0]] w fun e w' => ∃ a' c', e = .returned (.tuple #[.slice a' 4 c', .int .i64 0]) ∧ BOwn w' w.heap.size a' 4 c' [1, 2, 0, 3] ∧ w.grownBy w' none := by
  have H := Lib.hid h
  clear h
  go_enter Try.func9, Try.ntmps9
  go_wp2_with (first | (refine wpList_boxed rfl rfl #[.int .u8 1, .slice (some ⟨g, 0, none⟩) 2 2, .slice none 0 0] rfl ?_; intro wb hsb hgb hrb; have HB := Lib.hid hrb; have HG := Lib.hid hgb; clear hsb hgb hrb) | (refine wpList_load_row rfl 26 _ rfl w.heap.size rfl 26 #[.int .u8 1, .slice (some ⟨g, 0, none⟩) 2 2, .slice none 0 0] (0, 0) _ HB.out Try.underlying26 rfl (by kernel_rfl) ?_))
  refine (mayTell_a g wb (H.out.grown HG.out)).mono ?_
  rintro e w1 ⟨rfl, hg1⟩
  have HG1 := Lib.hid (grownBy_trans HG.out hg1)
  have HB1 := Lib.hid (HB.out.grown hg1)
  have c0 := Row.cell HB1.out 0
  simp at c0
  have hlt : w.heap.size < w1.heap.size := HB1.out.lt
  have hgl : g < w.heap.size := H.out.lt
  clear hg1
  go_upto_region 4 with fail
  obtain ⟨W2, hW2⟩ : ∃ W2, W2 = w1.alloc (.cells #[.int .u8 1] 5) := ⟨_, rfl⟩
  rw [← hW2]
  have hg2 : w1.grownBy W2 none := hW2 ▸ World.grownBy_alloc _ _ none
  have hr2 : BRow W2 w1.heap.size 5 [1] := by rw [hW2]; exact heap_alloc_new w1 _
  have ho2 : Own W2 w.heap.size 5 1 (some ⟨w1.heap.size, 0, none⟩) 1 1 (([1] : List UInt8).map bval) := BRow.own hr2 (by omega) 1 rfl (by decide)
  have HO2 := Lib.hid ho2
  have HG2 := Lib.hid (grownBy_trans HG1.out hg2)
  have HB2 := Lib.hid (HB1.out.grown hg2)
  clear c0 hW2 hg2 hr2 ho2
  have c0 := Row.cell HB2.out 0
  have c1 := Row.cell HB2.out 1
  simp at c0 c1
  have hwv : IntKind.u8.wrap 2 = 2 := rfl
  go_upto_region 7 with (at_builtin; refine wpList_push elB rfl (.tmp 17) (.tmp 22) rfl rfl HO2.out (.int .u8 2) rfl rfl (by decide) (by decide) HG2.out.size ?_; intro g3 cap3 w3 hown3 hgr3; have HO3 := Lib.hid hown3; have HG3 := Lib.hid (hgr3.grew.grown HO2.out HG2.out (Nat.le_refl _)); have HB3 := Lib.hid (Row.ch HB2.out hgr3.ch (fun h => by have := h.2; injection this with this; injection this with this; omega)); clear hown3 hgr3)
  clear c0 c1
  have c1 := Row.cell HB3.out 1
  simp at c1
  have HO3' : Hid (Own w3 w.heap.size 5 1 (some ⟨g3, 0, none⟩) 2 cap3 (([1, 2] : List UInt8).map bval)) := HO3
  clear HO3
  go_wp2_with fail
  go_loopw [27, 4] (fun vi vo wr => ∃ (k : Nat) (a : Option Addr) (m c : Nat), k ≤ 2 ∧ m = 2 + k ∧ vi = .int .i64 k ∧ vo = .slice a m c ∧ Own wr w.heap.size 5 1 a m c ((([1, 2] : List UInt8) ++ ([0, 3] : List UInt8).take k).map bval) ∧ w.grownBy wr none) (fun vi _ _ => 2 - (intOf vi).toNat)
  case atStart => exact ⟨0, _, _, _, by omega, rfl, rfl, rfl, HO3'.out, HG3.out⟩
  case round =>
    obtain ⟨k, a, m, c, hk, hm, rfl, rfl, ho, hg⟩ := hrel
    have HO := Lib.hid ho
    have HG4 := Lib.hid hg
    have d0 := Row.cell (H.out.grown hg) 0
    have d1 := Row.cell (H.out.grown hg) 1
    simp at d0 d1
    clear ho hg
    rcases (by omega : k = 0 ∨ k = 1 ∨ k = 2) with rfl | rfl | rfl
    · subst hm
      rw [show ((0 : Nat) : Int) = 0 from rfl]
      have hwv0 : IntKind.u8.wrap 0 = 0 := rfl
      go_wp2_with (at_builtin; refine wpList_push elB rfl (.tmp 31) (.tmp 34) rfl rfl HO.out (.int .u8 0) rfl rfl (by decide) (by decide) HG4.out.size ?_; intro g5 cap5 w5 hown5 hgr5; have HO5 := Lib.hid hown5; have HG5 := Lib.hid (hgr5.grew.grown HO.out HG4.out (Nat.le_refl _)); clear hown5 hgr5)
      go_roundw
      case rel => exact ⟨1, _, _, _, by omega, rfl, by first | rfl | go_num, rfl, HO5.out, HG5.out⟩
      case measure => simp [intOf]
    · subst hm
      rw [show ((1 : Nat) : Int) = 1 from rfl]
      have hwv3 : IntKind.u8.wrap 3 = 3 := rfl
      go_wp2_with (at_builtin; refine wpList_push elB rfl (.tmp 31) (.tmp 34) rfl rfl HO.out (.int .u8 3) rfl rfl (by decide) (by decide) HG4.out.size ?_; intro g5 cap5 w5 hown5 hgr5; have HO5 := Lib.hid hown5; have HG5 := Lib.hid (hgr5.grew.grown HO.out HG4.out (Nat.le_refl _)); clear hown5 hgr5)
      go_roundw
      case rel => exact ⟨2, _, _, _, by omega, rfl, by first | rfl | go_num, rfl, HO5.out, HG5.out⟩
      case measure => simp [intOf]
    · subst hm
      rw [show ((2 : Nat) : Int) = 2 from rfl]
      go_wp2_with fail
      go_ret2
      exact ⟨_, _, rfl, HO.out, HG4.out⟩

theorem results_ctt {P : Program} {fn : Func} {p q r : Tmp} {ty : TypeId} (h : fn.results = #[.cell p ty, .tmp q, .tmp r]) (tmps : Array Value) (w : World) (g : Nat) (t : TypeId) (cs : Array Value) (fr : Nat × Nat) (d : TypeDesc) (v u : Value)
    (hp : tmps.getD p undef = .pointer (some ⟨g, 0, none⟩)) (hq : tmps.getD q undef = v) (hr : tmps.getD r undef = u) (hg : w.heap[g]? = some (.cells cs t fr))
    (hu : P.underlying ty = some d) (hd : (match d with | .struct _ | .array _ _ => true | _ => false) = true) (hi : (P.info? ty).map (·.size) = some cs.size) :
    (results fn tmps).run P w = .ok (.tuple #[.agg cs, v, u]) w := by
  have hp' : tmps[p]?.getD undef = .pointer (some ⟨g, 0, none⟩) := by simpa using hp
  have hq' : tmps[q]?.getD undef = v := by simpa using hq
  have hr' : tmps[r]?.getD undef = u := by simpa using hr
  simp [results, h, hp', hq', hr', asAddr, run_loadVar_row w g t ty cs fr d hg hu hd hi]

theorem small_1 : smallL [0, 0, 0, 1] = 1 := by decide

set_option maxRecDepth 100000 in
set_option maxHeartbeats 2000000 in
theorem reply_a (g : Nat) (w : World) (h : BRow w g 5 [5, 0, 0, 0, 1, 170]) :
    Calls Try.prog 10 #[.slice (some ⟨g, 0, none⟩) 6 6] w fun e w' => ∃ a' c', e = .returned (.tuple #[.agg #[.int .u8 5, .slice none 0 0, .slice a' 1 c'], .int .i64 0, .int .i64 0]) ∧ BOwn w' w.heap.size a' 1 c' [170] ∧ w.grownBy w' none := by
  obtain ⟨ir, hir, hirz, hirs, _⟩ := info_parts (show (Try.prog.info? 26).map (fun i => (i.zero, i.size, i.bytes)) = some (some (.agg #[.int .u8 0, .slice none 0 0, .slice none 0 0]), 3, 56) by kernel_rfl)
  have hgl : g < w.heap.size := h.lt
  have hsm := small32_any (some ⟨g, 1, none⟩) 5 4 [0, 0, 0, 1]
  have hcl := clone_n (some ⟨g, 5, none⟩) 1 1 [170]
  have H := Lib.hid h
  clear h
  have b0 : ∀ W, w.grownBy W none → W.cell? ⟨g, 0, none⟩ = some (.int .u8 5) := fun W hg => by
    have := (H.out.grown hg).cell 0 (by decide); simpa using this
  have bl : ∀ W, w.grownBy W none → BLies W (some ⟨g, 1, none⟩) [0, 0, 0, 1] := fun W hg k hk => by
    have h1 := (H.out.grown hg).cell (k + 1) (by simp at hk ⊢; omega)
    refine ⟨g, 1, rfl, ?_⟩
    rw [Nat.add_comm, h1]
    match k, hk with
    | 0, _ => rfl
    | 1, _ => rfl
    | 2, _ => rfl
    | 3, _ => rfl
    | k + 4, hk => simp at hk; omega
  have bt : ∀ W, w.grownBy W none → BLies W (some ⟨g, 5, none⟩) [170] := fun W hg k hk => by
    have h1 := (H.out.grown hg).cell (k + 5) (by simp at hk ⊢; omega)
    refine ⟨g, 5, rfl, ?_⟩
    rw [Nat.add_comm, h1]
    match k, hk with
    | 0, _ => rfl
    | k + 1, hk => simp at hk
  have B0 := Lib.hid b0
  have hsm2 : ∀ W, w.grownBy W none → Calls Try.prog 27 #[.slice (some ⟨g, 1, none⟩) 4 5] W fun e w' => e = .returned (.tuple #[.int .u32 1, .int .i64 0]) ∧ W = w' := fun W hg => by
    have h := hsm W (bl W hg) rfl (by decide)
    rw [if_neg (by omega), if_neg (by omega), small_1] at h
    exact h
  have HSM := Lib.hid hsm2
  have HCL := Lib.hid (fun W hg => hcl W (bt W hg) rfl (by omega))
  clear b0 bl bt hsm hsm2 hcl
  go_enter Try.func10, Try.ntmps10
  go_upto_region 4 with (refine wpList_made rfl rfl hir hirz ?_; intro w1 hs1 hg1 hr1; have HS1 := Lib.hid hs1; have HG1 := Lib.hid hg1; have HR1 := Lib.hid (show Row w1 w.heap.size 26 #[.int .u8 0, .slice none 0 0, .slice none 0 0] from hr1); clear hs1 hg1 hr1)
  have c0 := B0.out w1 HG1.out
  go_upto_region 24 with (refine wpList_fresh rfl rfl rfl rfl rfl hir hirz (by rw [hirs]; rfl) #[.int .u8 5, .slice none 0 0, .slice none 0 0] rfl rfl rfl (by simp [Value.oneCell']) ?_; intro w2 hs2 hg2 hr2; have HG2 := Lib.hid (grownBy_trans HG1.out hg2); have HR2 := Lib.hid hr2; have HR1' := Lib.hid (HR1.out.grown hg2); have d0 := Row.cell hr2 0; simp at d0; clear hs2 hg2 hr2)
  go_wp2_with fail
  refine (HSM.out w2 HG2.out).mono ?_
  rintro e w' ⟨rfl, rfl⟩
  go_wp2_with fail
  refine (HCL.out w2 HG2.out).mono ?_
  rintro e w3 ⟨a', c', rfl, hown3, hg3⟩
  have hs1 := HS1.out
  have hz2 := HG2.out.size
  have hb2 := HR2.out.lt
  have HO3 := Lib.hid hown3
  have HG3 := Lib.hid (grownBy_trans HG2.out hg3)
  have HR3 := Lib.hid (HR2.out.grown hg3)
  have HT3 := Lib.hid (HR1'.out.grown hg3)
  have e2 := Row.cell HR3.out 2
  have f2 := Row.frozen HR3.out 2
  simp at e2
  obtain ⟨bo, hbo⟩ : ∃ bo, bo = w1.heap.size := ⟨_, rfl⟩
  have hbl := HR3.out.lt
  rw [← hbo] at HR3 e2 f2 hbl hb2 ⊢
  have hbw : w.heap.size < bo := by omega
  clear hbo
  clear hown3 hg3 d0 c0 hs1 hz2
  go_upto_region 32 with fail
  obtain ⟨W4, hW4⟩ : ∃ W4, W4 = w3.setCell ⟨bo, 2, none⟩ (.slice a' 1 c') := ⟨_, rfl⟩
  rw [← hW4]
  have hg4 : w3.grownBy W4 (some bo) := hW4 ▸ grownBy_setCell _ _ _ _
  have HR4 := Lib.hid (show Row W4 bo 26 #[.int .u8 5, .slice none 0 0, .slice a' 1 c'] from hW4 ▸ Row.setc HR3.out 2 (.slice a' 1 c'))
  have HT4 := Lib.hid (HT3.out.grownNe hg4 (by omega))
  have HG4 := Lib.hid (grownBy_old HG3.out hg4 (by omega))
  have ho4 : Own W4 w2.heap.size 5 1 a' 1 c' (([170] : List UInt8).map bval) := Own.ch HO3.out (Ch.ofSome (S := fun k => k = bo) hg4 rfl) (fun h0 g e h => by
    have := (Own.inn HO3.out (g := g) ⟨h0, e⟩).1
    omega)
  have HO4 := Lib.hid ho4
  clear ho4 hg4 hW4 e2 f2 HR3 HT3 HG3 HO3 HR2 HR1' HR1
  go_wp2_with (first | (refine wpList_load_row rfl 26 _ rfl bo rfl 26 #[.int .u8 5, .slice none 0 0, .slice a' 1 c'] (0, 0) _ HR4.out Try.underlying26 rfl (by kernel_rfl) ?_) | (refine wpList_putrow rfl rfl w.heap.size rfl #[.int .u8 5, .slice none 0 0, .slice a' 1 c'] rfl HT4.out (by kernel_rfl) rfl (by simp [Value.oneCell']) ?_; intro W5 hg5 hr5; have HG5 := Lib.hid hg5; have HR5 := Lib.hid hr5; clear hg5 hr5))
  have ho5 := Own.ch HO4.out (Ch.ofSome (S := fun k => k = w.heap.size) HG5.out rfl) (fun h0 g e h => by
    have := (Own.inn HO4.out (g := g) ⟨h0, e⟩).1
    omega)
  refine bodyPost_ret (results_ctt rfl _ _ w.heap.size 26 #[.int .u8 5, .slice none 0 0, .slice a' 1 c'] (0, 0) _ _ _ rfl rfl rfl HR5.out Try.underlying26 rfl (by kernel_rfl)) rfl ?_
  exact ⟨_, _, rfl, Own.mono ho5 HG2.out.size, grownBy_old HG4.out HG5.out (Nat.le_refl _)⟩


set_option maxRecDepth 100000 in
set_option maxHeartbeats 2000000 in
theorem lives_n (w : World) : Calls Try.prog 8 #[] w fun e w' => e = .returned (.bool true) ∧ w.grownBy w' none := by
  obtain ⟨ir, hir, hirz, hirs, _⟩ := info_parts (show (Try.prog.info? 26).map (fun i => (i.zero, i.size, i.bytes)) = some (some (.agg #[.int .u8 0, .slice none 0 0, .slice none 0 0]), 3, 56) by kernel_rfl)
  go_enter Try.func8, Try.ntmps8
  go_wp2_with fail
  have hp := putReply_a w.heap.size (w.alloc (.cells #[.int .i64 0, .int .i64 3] 3)) (heap_alloc_new w _)
  refine hp.mono ?_
  rintro e w1 ⟨a1, c1, rfl, ho1, hg1⟩
  have HO1 := Lib.hid ho1
  have HG1 := Lib.hid (grownBy_trans (World.grownBy_alloc w _ none) hg1)
  clear hp ho1 hg1
  go_wp2_with fail
  have hp := reply_a w1.heap.size (w1.alloc (.cells #[.int .u8 5, .int .u8 0, .int .u8 0, .int .u8 0, .int .u8 1, .int .u8 170] 5)) (heap_alloc_new w1 _)
  refine hp.mono ?_
  rintro e w2 ⟨a2, c2, rfl, ho2, hg2⟩
  have HO2 := Lib.hid ho2
  have hg12 := grownBy_trans (World.grownBy_alloc w1 _ none) hg2
  have HG2 := Lib.hid (grownBy_trans HG1.out hg12)
  replace HO1 := Lib.hid (Own.ch HO1.out (Ch.ofNone hg12 (fun _ => False)) (fun _ _ _ h => h))
  clear hp ho2 hg2 hg12
  go_upto_region 3 with (refine wpList_fresh rfl rfl rfl rfl rfl hir hirz (by rw [hirs]; rfl) #[.int .u8 5, .slice none 0 0, .slice a2 1 c2] rfl rfl rfl (by simp [Value.oneCell']) ?_; intro w3 hs3 hg3 hr3; have HG3 := Lib.hid (grownBy_trans HG2.out hg3); have HR3 := Lib.hid hr3; have HA3 := Lib.hid (Own.ch HO1.out (Ch.ofNone hg3 (fun _ => False)) (fun _ _ _ h => h)); have HB3 := Lib.hid (Own.ch HO2.out (Ch.ofNone hg3 (fun _ => False)) (fun _ _ _ h => h)); clear hs3 hg3 hr3)
  obtain ⟨bo, hbo⟩ : ∃ bo, bo = w2.heap.size := ⟨_, rfl⟩
  rw [← hbo] at HR3 ⊢
  clear hbo
  go_wp2_with fail
  have hga := World.grownBy_alloc w3 (.cells #[.int .u8 1, .int .u8 2, .int .u8 0, .int .u8 3] 5) none
  have hb4 : BRow (w3.alloc (.cells #[.int .u8 1, .int .u8 2, .int .u8 0, .int .u8 3] 5)) w3.heap.size 5 [1, 2, 0, 3] := heap_alloc_new w3 _
  have ha4 : BOwn (w3.alloc (.cells #[.int .u8 1, .int .u8 2, .int .u8 0, .int .u8 3] 5)) _ a1 4 c1 [1, 2, 0, 3] := Own.ch HA3.out (Ch.ofNone hga (fun _ => False)) (fun _ _ _ h => h)
  refine (same_yes _ _ _ _ _ _ [1, 2, 0, 3] _ (BOwn.lies ha4) (BRow.lies hb4) rfl rfl (by decide)).mono ?_
  rintro e w5 ⟨rfl, q5, hq5⟩
  have hg5 := grownBy_trans hga (show (w3.alloc (.cells #[.int .u8 1, .int .u8 2, .int .u8 0, .int .u8 3] 5)).grownBy w5 none from hq5 ▸ grownBy_drewN _ _ _)
  have HG5 := Lib.hid (grownBy_trans HG3.out hg5)
  have hr5 := HR3.out.grown hg5
  have ho5 : BOwn w5 _ a2 1 c2 [170] := Own.ch HB3.out (Ch.ofNone hg5 (fun _ => False)) (fun _ _ _ h => h)
  obtain ⟨b, off, hb, hc⟩ := (BOwn.lies ho5) 0 (by decide)
  have d0 := Row.cell hr5 0
  have d2 := Row.cell hr5 2
  simp at d0 d2 hc
  subst hb
  clear hga hb4 ha4 hq5 hg5 hr5 ho5 HR3 HA3 HB3
  go_wp2_with fail
  go_ret
  exact ⟨rfl, HG5.out⟩

set_option maxRecDepth 100000 in
set_option maxHeartbeats 1000000 in
theorem wireNames_walk (w : World) : Calls Try.prog 4 #[] w fun e w' => e = .returned (.bool true) ∧ w.grownBy w' none := by
  go_enter Try.func4, Try.ntmps4
  go_wp2_with fail
  refine (lives_n _).mono ?_
  rintro e w1 ⟨rfl, hg1⟩
  have HG1 := Lib.hid hg1
  clear hg1
  go_wp2_with fail
  go_ret
  exact ⟨rfl, HG1.out⟩

end Go.Proofs.Ytkdmebcfedehiaa
