/- Helpers and contracts of the proofs over this seat: CtrStream2, CtrRef, CtrRef2, CtrRef3, CtrAwk, CtrTurnL. Each states what a function of the program answers, or is plain Lean; its conditions stand in each statement. -/
import Derived.Test.YtblgdfamomlklaaPtAA
import Derived.Test.YtblgdfamomlklaaPtAB
import Derived.Test.YtblgdfamomlklaaPtAC
import Derived.Test.YtblgdfamomlklaaPtAD
import Derived.Test.YtblgdfamomlklaaPtAE
set_option linter.unusedVariables false
/- ctr.Stream at every number; ctr.Apply. -/
namespace Go.Proofs.Ytblgdfamomlklaa
open Go.RowKit Go.Shelf
attribute [local go_sem] Oper.semAt_some
theorem wrapM (x : Int) (h1 : 0 ≤ x) (h2 : x ≤ 4611686018427387904) : IntKind.i64.wrap (4611686018427387904 - x) = 4611686018427387904 - x := IntWalk.i64_in _ (by omega)

set_option maxRecDepth 100000 in
set_option maxHeartbeats 1000000 in
theorem stream_neg (key : List UInt8) (hkl : key.length = 16) (x y : Int) (hy : y < 0) (w : World) :
    Calls Try.prog 18 #[aggB key, .int .i64 x, .int .i64 y] w fun e w' => e = .returned (.tuple #[.slice none 0 0, .int .i64 2]) ∧ w.grownBy w' none := by
  have hd2 : decide (y < 0) = true := decide_eq_true (hy)
  unfold aggB
  refine calls_of_wp_marks Try.func18 rfl ?_
  simp only [Try.ntmps18, List.size_toArray, List.length_cons, List.length_nil, Nat.reduceAdd, Nat.reduceSub, Array.replicate_succ, Array.replicate_zero, List.push_toArray, List.append_toArray, List.nil_append, List.cons_append]
  go_upto_region 1 with (first
    | (refine wpList_boxed rfl rfl (cellsB key) rfl ?_; intro W1 hs1 hg1 hr1; have HG1 := Lib.hid hg1; clear hs1 hg1 hr1)
    | (refine wpList_box1 rfl rfl (.int .i64 y) rfl rfl ?_; intro W2 hs2 hg2 hr2; have HG2 := Lib.hid (grownBy_trans HG1.out hg2); have c2 := Row.cell hr2 0; simp at c2; clear hs2 hg2 hr2))
  go_wp2_with fail
  exact ⟨_, results_tmp2 rfl _ _ _, rfl, HG2.out⟩

set_option maxRecDepth 100000 in
set_option maxHeartbeats 1000000 in
theorem stream_low (key : List UInt8) (hkl : key.length = 16) (x y : Int) (hy : 0 ≤ y) (hx : x < 0) (w : World) :
    Calls Try.prog 18 #[aggB key, .int .i64 x, .int .i64 y] w fun e w' => e = .returned (.tuple #[.slice none 0 0, .int .i64 40]) ∧ w.grownBy w' none := by
  have hd2 : decide (y < 0) = false := decide_eq_false (by omega)
  have hd3 : decide (x < 0) = true := decide_eq_true (hx)
  unfold aggB
  refine calls_of_wp_marks Try.func18 rfl ?_
  simp only [Try.ntmps18, List.size_toArray, List.length_cons, List.length_nil, Nat.reduceAdd, Nat.reduceSub, Array.replicate_succ, Array.replicate_zero, List.push_toArray, List.append_toArray, List.nil_append, List.cons_append]
  go_upto_region 1 with (first
    | (refine wpList_boxed rfl rfl (cellsB key) rfl ?_; intro W1 hs1 hg1 hr1; have HG1 := Lib.hid hg1; clear hs1 hg1 hr1)
    | (refine wpList_box1 rfl rfl (.int .i64 y) rfl rfl ?_; intro W2 hs2 hg2 hr2; have HG2 := Lib.hid (grownBy_trans HG1.out hg2); have c2 := Row.cell hr2 0; simp at c2; clear hs2 hg2 hr2))
  go_wp2_with fail
  exact ⟨_, results_tmp2 rfl _ _ _, rfl, HG2.out⟩

set_option maxRecDepth 100000 in
set_option maxHeartbeats 1000000 in
theorem stream_high (key : List UInt8) (hkl : key.length = 16) (x y : Int) (hy : 0 ≤ y) (hx : 4611686018427387904 < x) (w : World) :
    Calls Try.prog 18 #[aggB key, .int .i64 x, .int .i64 y] w fun e w' => e = .returned (.tuple #[.slice none 0 0, .int .i64 40]) ∧ w.grownBy w' none := by
  have hd2 : decide (y < 0) = false := decide_eq_false (by omega)
  have hd3 : decide (x < 0) = false := decide_eq_false (by omega)
  have hd4 : decide (4611686018427387904 < x) = true := decide_eq_true (hx)
  unfold aggB
  refine calls_of_wp_marks Try.func18 rfl ?_
  simp only [Try.ntmps18, List.size_toArray, List.length_cons, List.length_nil, Nat.reduceAdd, Nat.reduceSub, Array.replicate_succ, Array.replicate_zero, List.push_toArray, List.append_toArray, List.nil_append, List.cons_append]
  go_upto_region 1 with (first
    | (refine wpList_boxed rfl rfl (cellsB key) rfl ?_; intro W1 hs1 hg1 hr1; have HG1 := Lib.hid hg1; clear hs1 hg1 hr1)
    | (refine wpList_box1 rfl rfl (.int .i64 y) rfl rfl ?_; intro W2 hs2 hg2 hr2; have HG2 := Lib.hid (grownBy_trans HG1.out hg2); have c2 := Row.cell hr2 0; simp at c2; clear hs2 hg2 hr2))
  go_wp2_with fail
  exact ⟨_, results_tmp2 rfl _ _ _, rfl, HG2.out⟩

set_option maxRecDepth 100000 in
set_option maxHeartbeats 1000000 in
theorem stream_far (key : List UInt8) (hkl : key.length = 16) (x y : Int) (hy : 0 ≤ y) (hx : 0 ≤ x) (hx2 : x ≤ 4611686018427387904) (hf : 4611686018427387904 - x < y) (w : World) :
    Calls Try.prog 18 #[aggB key, .int .i64 x, .int .i64 y] w fun e w' => e = .returned (.tuple #[.slice none 0 0, .int .i64 40]) ∧ w.grownBy w' none := by
  have hd2 : decide (y < 0) = false := decide_eq_false (by omega)
  have hd3 : decide (x < 0) = false := decide_eq_false (by omega)
  have hd4 : decide (4611686018427387904 < x) = false := decide_eq_false (by omega)
  have hd5 : decide (4611686018427387904 - x < y) = true := decide_eq_true (hf)
  have hw3 := wrapM x hx hx2
  unfold aggB
  refine calls_of_wp_marks Try.func18 rfl ?_
  simp only [Try.ntmps18, List.size_toArray, List.length_cons, List.length_nil, Nat.reduceAdd, Nat.reduceSub, Array.replicate_succ, Array.replicate_zero, List.push_toArray, List.append_toArray, List.nil_append, List.cons_append]
  go_upto_region 1 with (first
    | (refine wpList_boxed rfl rfl (cellsB key) rfl ?_; intro W1 hs1 hg1 hr1; have HG1 := Lib.hid hg1; clear hs1 hg1 hr1)
    | (refine wpList_box1 rfl rfl (.int .i64 y) rfl rfl ?_; intro W2 hs2 hg2 hr2; have HG2 := Lib.hid (grownBy_trans HG1.out hg2); have c2 := Row.cell hr2 0; simp at c2; clear hs2 hg2 hr2))
  go_wp2_with fail
  exact ⟨_, results_tmp2 rfl _ _ _, rfl, HG2.out⟩

set_option maxRecDepth 100000 in
set_option maxHeartbeats 1000000 in
theorem stream_zero (key : List UInt8) (hkl : key.length = 16) (x y : Int) (hy : y = 0) (hx : 0 ≤ x) (hx2 : x ≤ 4611686018427387904) (w : World) :
    Calls Try.prog 18 #[aggB key, .int .i64 x, .int .i64 y] w fun e w' => e = .returned (.tuple #[.slice none 0 0, .int .i64 0]) ∧ w.grownBy w' none := by
  subst hy
  have hd3 : decide (x < 0) = false := decide_eq_false (by omega)
  have hd4 : decide (4611686018427387904 < x) = false := decide_eq_false (by omega)
  have hd5 : decide (4611686018427387904 - x < 0) = false := decide_eq_false (by omega)
  have hw3 := wrapM x hx hx2
  unfold aggB
  refine calls_of_wp_marks Try.func18 rfl ?_
  simp only [Try.ntmps18, List.size_toArray, List.length_cons, List.length_nil, Nat.reduceAdd, Nat.reduceSub, Array.replicate_succ, Array.replicate_zero, List.push_toArray, List.append_toArray, List.nil_append, List.cons_append]
  go_upto_region 1 with (first
    | (refine wpList_boxed rfl rfl (cellsB key) rfl ?_; intro W1 hs1 hg1 hr1; have HG1 := Lib.hid hg1; clear hs1 hg1 hr1)
    | (refine wpList_box1 rfl rfl (.int .i64 0) rfl rfl ?_; intro W2 hs2 hg2 hr2; have HG2 := Lib.hid (grownBy_trans HG1.out hg2); have c2 := Row.cell hr2 0; simp at c2; clear hs2 hg2 hr2))
  go_wp2_with fail
  exact ⟨_, results_tmp2 rfl _ _ _, rfl, HG2.out⟩

theorem stream_n (key : List UInt8) (hkl : key.length = 16) (x y : Int) (hy : y ≤ 4000000100) (w : World) :
    Calls Try.prog 18 #[aggB key, .int .i64 x, .int .i64 y] w fun e w' => ∃ a n c, e = .returned (.tuple #[.slice a n c, .int .i64 (stE x y)]) ∧ BOwn w' w.heap.size a n c (stL key x y) ∧ w.grownBy w' none := by
  have err : ∀ k : Int, k ≠ 0 → stE x y = k → Calls Try.prog 18 #[aggB key, .int .i64 x, .int .i64 y] w (fun e w' => e = .returned (.tuple #[.slice none 0 0, .int .i64 k]) ∧ w.grownBy w' none) →
      Calls Try.prog 18 #[aggB key, .int .i64 x, .int .i64 y] w fun e w' => ∃ a n c, e = .returned (.tuple #[.slice a n c, .int .i64 (stE x y)]) ∧ BOwn w' w.heap.size a n c (stL key x y) ∧ w.grownBy w' none := by
    intro k hk he h
    refine h.mono ?_
    rintro e w' ⟨rfl, hg⟩
    refine ⟨none, 0, 0, by rw [he], ?_, hg⟩
    rw [show stL key x y = [] by unfold stL; rw [he, if_neg hk]]
    exact Own.nil _ _ _ _ _
  by_cases h1 : y < 0
  · exact err 2 (by decide) (by unfold stE; rw [if_pos h1]) (stream_neg key hkl x y h1 w)
  by_cases h2 : x < 0
  · exact err 40 (by decide) (by unfold stE; rw [if_neg h1, if_pos (.inl h2)]) (stream_low key hkl x y (by omega) h2 w)
  by_cases h3 : 4611686018427387904 < x
  · exact err 40 (by decide) (by unfold stE; rw [if_neg h1, if_pos (.inr (.inl h3))]) (stream_high key hkl x y (by omega) h3 w)
  by_cases h4 : 4611686018427387904 - x < y
  · exact err 40 (by decide) (by unfold stE; rw [if_neg h1, if_pos (.inr (.inr h4))]) (stream_far key hkl x y (by omega) (by omega) (by omega) h4 w)
  have he : stE x y = 0 := by unfold stE; rw [if_neg h1, if_neg (by omega)]
  rw [he, show stL key x y = kst (ksB key) x.toNat y.toNat by unfold stL; rw [if_pos he]]
  by_cases h5 : y = 0
  · subst h5
    refine (stream_zero key hkl x 0 rfl (by omega) (by omega) w).mono ?_
    rintro e w' ⟨rfl, hg⟩
    exact ⟨none, 0, 0, rfl, Own.nil _ _ _ _ _, hg⟩
  obtain ⟨p, rfl⟩ : ∃ p : Nat, x = (p : Int) := ⟨x.toNat, by omega⟩
  obtain ⟨n, rfl⟩ : ∃ n : Nat, y = (n : Int) := ⟨y.toNat, by omega⟩
  refine (stream_ok key hkl p n (by omega) (by omega) (by omega) (by omega) _ rfl w).mono ?_
  rintro e w' ⟨g, rfl, ho, hg⟩
  exact ⟨_, _, _, rfl, by simpa using ho, hg⟩

/-- what Apply answers -/
def apL (key : List UInt8) (x : Int) (l : List UInt8) : List UInt8 := if stE x l.length = 0 then xobL l (kst (ksB key) x.toNat l.length) else []
set_option maxRecDepth 100000 in
set_option maxHeartbeats 1000000 in
theorem apply_n (key : List UInt8) (hkl : key.length = 16) (x : Int) (a : Option Addr) (n c : Nat) (l : List UInt8) (hl : l.length = n) (hn : n ≤ 4000000000) (w : World) (ha : BLies w a l) :
    Calls Try.prog 19 #[aggB key, .int .i64 x, .slice a n c] w fun e w' => ∃ a' n' c', e = .returned (.tuple #[.slice a' n' c', .int .i64 (stE x (n : Int))]) ∧ BOwn w' w.heap.size a' n' c' (apL key x l) ∧ w.grownBy w' none := by
  have HA := Lib.hid ha
  have HL := Lib.hid hl
  clear ha hl
  have hst := fun w => stream_n key hkl x (n : Int) (by omega) w
  obtain ⟨E, hE⟩ : ∃ E, E = stE x (n : Int) := ⟨_, rfl⟩
  obtain ⟨S, hS⟩ : ∃ S, S = stL key x (n : Int) := ⟨_, rfl⟩
  rw [← hE, ← hS] at hst
  rw [← hE]
  have HST := Lib.hid hst
  have HE := Lib.hid hE
  have HS := Lib.hid hS
  obtain ⟨AP, hAP⟩ : ∃ AP, AP = apL key x l := ⟨_, rfl⟩
  rw [← hAP]
  have HAP := Lib.hid hAP
  clear hst hE hS hAP
  unfold aggB
  go_enter Try.func19, Try.ntmps19
  go_upto_region 1 with (refine wpList_boxed rfl rfl (cellsB key) rfl ?_; intro W1 hs1 hg1 hr1; have HG1 := Lib.hid hg1; have HR1 := Lib.hid hr1; clear hs1 hg1 hr1)
  by_cases he : E = 0
  · subst he
    have hsl : S = kst (ksB key) x.toNat n := by rw [HS.out, stL, if_pos HE.out.symm]; rfl
    have hap : apL key x l = xobL l S := by rw [apL, HL.out, if_pos HE.out.symm, hsl]
    have HSL := Lib.hid (show S.length = n by rw [hsl, kst_len])
    have HAQ := Lib.hid (HAP.out.trans hap)
    clear hsl hap
    go_wp2_with (first
      | (refine wpList_load_row rfl 27 _ rfl w.heap.size rfl 27 (cellsB key) (0, 0) _ HR1.out Try.underlying27 rfl (by rw [cellsB_size, hkl]; kernel_rfl) ?_)
      | (go_at_call 18; refine (HST.out _).mono ?_; rintro e W2 ⟨a2, n2, c2, rfl, ho2, hg2⟩; have HO2 := Lib.hid ho2; have HG2 := Lib.hid (grownBy_trans HG1.out hg2); have HZ := Lib.hid HG1.out.size; clear ho2 hg2))
    have hn2 : n2 = n := by have := BOwn.len HO2.out; have := HSL.out; omega
    subst hn2
    refine (xor_eq a a2 n2 c c2 l S _ (HA.out.grown HG2.out) (BOwn.lies HO2.out) HL.out HSL.out hn AP HAQ.out).mono ?_
    rintro e W3 ⟨a3, n3, c3, rfl, ho3, hg3⟩
    have HO3 := Lib.hid ho3
    have HG3 := Lib.hid hg3
    clear ho3 hg3
    go_wp2_with fail
    refine bodyPost_ret (results_tmp2 rfl _ _ _) rfl ?_
    exact ⟨_, _, _, rfl, HO3.out.mono HG2.out.size, grownBy_trans HG2.out HG3.out⟩
  · have hd : decide (E = 0) = false := decide_eq_false he
    have hd2 : (E != 0) = true := by simpa using he
    have hap : apL key x l = [] := by rw [apL, HL.out, ← HE.out, if_neg he]
    have hsl : S = [] := by rw [HS.out, stL, ← HE.out, if_neg he]
    have HAQ := Lib.hid (HAP.out.trans hap)
    clear hap hsl
    go_wp2_with (first
      | (refine wpList_load_row rfl 27 _ rfl w.heap.size rfl 27 (cellsB key) (0, 0) _ HR1.out Try.underlying27 rfl (by rw [cellsB_size, hkl]; kernel_rfl) ?_)
      | (go_at_call 18; refine (HST.out _).mono ?_; rintro e W2 ⟨a2, n2, c2, rfl, ho2, hg2⟩; have HO2 := Lib.hid ho2; have HG2 := Lib.hid (grownBy_trans HG1.out hg2); have HZ := Lib.hid HG1.out.size; clear ho2 hg2))
    refine bodyPost_ret (results_tmp2 rfl _ _ _) rfl ?_
    exact ⟨_, _, _, rfl, by rw [HAQ.out]; exact Own.nil _ _ _ _ _, HG2.out⟩
end Go.Proofs.Ytblgdfamomlklaa
/- the document's Encrypt, Block, Stream. -/
namespace Go.Proofs.Ytblgdfamomlklaa
open Go.RowKit Go.Shelf

set_option maxRecDepth 100000 in
set_option maxHeartbeats 1000000 in
theorem refEncrypt_n (k b : List UInt8) (hkl : k.length = 16) (hb : b.length = 16) (w : World) :
    Calls Try.prog 39 #[aggB k, aggB b] w fun e w' => e = .returned (aggB (encS (keysL k) b 10)) ∧ w.grownBy w' none := by
  have hbe := fun w => refBehind_n k b 10 hkl hb (by omega) w
  have hyl := encS_len (keysL_len k) hb 10 (by omega)
  obtain ⟨y, hy⟩ : ∃ y, y = encS (keysL k) b 10 := ⟨_, rfl⟩
  rw [← hy] at hbe hyl ⊢
  have HBE := Lib.hid hbe
  clear hbe hy
  obtain ⟨ib, hib, hibz, hibs⟩ := block_info
  unfold aggB
  go_enter Try.func39, Try.ntmps39
  go_upto_region 1 with (first
    | (refine wpList_boxed rfl rfl (cellsB k) rfl ?_; intro W1 hs1 hg1 hr1; have HS1 := Lib.hid hs1; have HG1 := Lib.hid hg1; have HR1 := Lib.hid hr1; clear hs1 hg1 hr1)
    | (refine wpList_boxed rfl rfl (cellsB b) rfl ?_; intro W2 hs2 hg2 hr2; have HS2 := Lib.hid hs2; have HG2 := Lib.hid (grownBy_trans HG1.out hg2); have HR2 := Lib.hid hr2; have HK2 := Lib.hid (HR1.out.grown hg2); clear hs2 hg2 hr2)
    | (refine wpList_made rfl rfl hib hibz ?_; intro W3 hs3 hg3 hr3; have HG3 := Lib.hid (grownBy_trans HG2.out hg3); have HR3 := Lib.hid (show Row W3 W2.heap.size 24 (cellsB z16) from hr3); have HB3 := Lib.hid (HR2.out.grown hg3); have HK3 := Lib.hid (HK2.out.grown hg3); clear hs3 hg3 hr3))
  go_wp2_with (first
    | (refine wpList_load_row rfl 27 _ rfl w.heap.size rfl 27 (cellsB k) (0, 0) _ HK3.out Try.underlying27 rfl (by rw [cellsB_size, hkl]; kernel_rfl) ?_)
    | (refine wpList_load_row rfl 24 _ rfl W1.heap.size rfl 24 (cellsB b) (0, 0) _ HB3.out Try.underlying24 rfl (by rw [cellsB_size, hb]; kernel_rfl) ?_)
    | (go_at_call 48; refine (HBE.out _).mono ?_; rintro e W4 ⟨rfl, hg4⟩; have HG4 := Lib.hid (grownBy_trans HG3.out hg4); have HR4 := Lib.hid (HR3.out.grown hg4); have HZ := Lib.hid (show w.heap.size ≤ W2.heap.size from HG2.out.size); clear hg4)
    | (refine wpList_putrow rfl rfl W2.heap.size rfl (cellsB y) rfl HR4.out (by rw [cellsB_size, hyl]; kernel_rfl) (by rw [cellsB_size, cellsB_size, hyl]; rfl) (cellsB_one _) ?_; intro W5 hg5 hr5; have HG5 := Lib.hid (grownBy_old HG4.out hg5 HZ.out); have HR5 := Lib.hid hr5; clear hg5 hr5))
  refine bodyPost_ret (v := .agg (cellsB y)) (results_cell_row rfl _ _ W2.heap.size 24 (cellsB y) (0, 0) _ rfl HR5.out Try.underlying24 rfl (by rw [cellsB_size, hyl]; kernel_rfl)) rfl ⟨rfl, HG5.out⟩

set_option maxRecDepth 100000 in
set_option maxHeartbeats 1000000 in
theorem refBlock_n (key : List UInt8) (hkl : key.length = 16) (n : Nat) (hn : n < 18446744073709551616) (w : World) :
    Calls Try.prog 16 #[aggB key, .int .u64 (n : Int)] w fun e w' => e = .returned (aggB (ksB key n)) ∧ w.grownBy w' none := by
  have hct : ∀ u, Calls Try.prog 13 #[.int .u64 (n : Int)] u fun e w' => e = .returned (aggB (ctrL n)) ∧ u.grownBy w' none := fun u => refCounter_n n hn u
  have hen : ∀ u, Calls Try.prog 39 #[aggB key, aggB (ctrL n)] u fun e w' => e = .returned (aggB (ksB key n)) ∧ u.grownBy w' none := fun u => refEncrypt_n key (ctrL n) hkl (ctrL_len n) u
  have hyl := ksB_len key n
  obtain ⟨x, hx⟩ : ∃ x, x = ctrL n := ⟨_, rfl⟩
  obtain ⟨y, hy⟩ : ∃ y, y = ksB key n := ⟨_, rfl⟩
  rw [← hx] at hct hen
  rw [← hy] at hen hyl ⊢
  have HEN := Lib.hid hen
  have HCT := Lib.hid hct
  clear hen hct hx hy
  obtain ⟨ib, hib, hibz, hibs⟩ := block_info
  unfold aggB at *
  go_enter Try.func16, Try.ntmps16
  go_upto_region 1 with (first
    | (refine wpList_boxed rfl rfl (cellsB key) rfl ?_; intro W1 hs1 hg1 hr1; have HS1 := Lib.hid hs1; have HG1 := Lib.hid hg1; have HR1 := Lib.hid hr1; clear hs1 hg1 hr1)
    | (refine wpList_made rfl rfl hib hibz ?_; intro W3 hs3 hg3 hr3; have HG3 := Lib.hid (grownBy_trans HG1.out hg3); have HR3 := Lib.hid (show Row W3 W1.heap.size 24 (cellsB z16) from hr3); have HK3 := Lib.hid (HR1.out.grown hg3); clear hs3 hg3 hr3))
  obtain ⟨g2, hg2⟩ : ∃ g2, g2 = w.heap.size := ⟨_, rfl⟩
  obtain ⟨g4, hg4⟩ : ∃ g4, g4 = W1.heap.size := ⟨_, rfl⟩
  have hz : w.heap.size ≤ g4 := by rw [hg4]; exact HG1.out.size
  rw [← hg2, ← hg4]
  rw [← hg2] at HK3
  rw [← hg4] at HR3
  clear hg2 hg4
  refine wp_regionX (fun u => Row u g2 27 (cellsB key) ∧ (Row u g4 24 (cellsB z16) ∧ w.grownBy u none)) 4 (by kernel_rfl) ⟨HK3.out.grown (grownBy_drewN W3 1 none), HR3.out.grown (grownBy_drewN W3 1 none), grownBy_trans HG3.out (grownBy_drewN W3 1 none)⟩ ?_
  refine wpX_take 0 (v := .agg (cellsB key)) (oi := { dst := some 5, op := Op.load 27 (Operand.tmp 2), type := 27, pos := "ref.go:22", after := #[], guard := none }) (oL := { dst := none, op := Op.store 24 (Operand.tmp 4) (Operand.tmp 8), type := 0, pos := "ref.go:22", after := #[{ on := 3, ground := Ground.data }, { on := 3, ground := Ground.chain }, { on := 0, ground := Ground.phase }, { on := 1, ground := Ground.phase }, { on := 2, ground := Ground.phase }, { on := 3, ground := Ground.phase }], guard := none }) (clo_and (clo_row _ _ _) (clo_and (clo_row _ _ _) (clo_grown _))) rfl rfl rfl (by kernel_rfl) (by kernel_rfl) (by kernel_rfl) (by kernel_rfl) (by kernel_rfl) (fun _ _ _ h => h) (YG.val (by rfl) (fun u hu => run_load_op u _ 27 (.tmp 2) rfl g2 rfl 27 (cellsB key) hu.1 Try.underlying27 rfl (by rw [cellsB_size, hkl]; kernel_rfl))) ?_
  simp only [Act.put, List.setIfInBounds_toArray, List.set_cons_zero, List.set_cons_succ]
  refine wpX_take 1 (v := .int .u64 (n : Int)) (oi := { dst := some 6, op := Op.move (Operand.tmp 1), type := 22, pos := "ref.go:22", after := #[], guard := none }) (oL := { dst := none, op := Op.store 24 (Operand.tmp 4) (Operand.tmp 8), type := 0, pos := "ref.go:22", after := #[{ on := 3, ground := Ground.data }, { on := 3, ground := Ground.chain }, { on := 0, ground := Ground.phase }, { on := 1, ground := Ground.phase }, { on := 2, ground := Ground.phase }, { on := 3, ground := Ground.phase }], guard := none }) (clo_and (clo_row _ _ _) (clo_and (clo_row _ _ _) (clo_grown _))) rfl rfl rfl (by kernel_rfl) (by kernel_rfl) (by kernel_rfl) (by kernel_rfl) (by kernel_rfl) (fun _ _ _ h => h) (YG.val (by rfl) (fun _ _ => rfl)) ?_
  simp only [Act.put, List.setIfInBounds_toArray, List.set_cons_zero, List.set_cons_succ]
  refine wpX_take 2 (v := .agg (cellsB x)) (oi := { dst := some 7, op := Op.call { callee := Callee.value (Operand.func 13), args := #[Operand.tmp 6], argTypes := #[22] }, type := 24, pos := "ref.go:22", after := #[{ on := 1, ground := Ground.data }], guard := none }) (oL := { dst := none, op := Op.store 24 (Operand.tmp 4) (Operand.tmp 8), type := 0, pos := "ref.go:22", after := #[{ on := 3, ground := Ground.data }, { on := 3, ground := Ground.chain }, { on := 0, ground := Ground.phase }, { on := 1, ground := Ground.phase }, { on := 2, ground := Ground.phase }, { on := 3, ground := Ground.phase }], guard := none }) (clo_and (clo_row _ _ _) (clo_and (clo_row _ _ _) (clo_grown _))) rfl rfl rfl (by kernel_rfl) (by kernel_rfl) (by kernel_rfl) (by kernel_rfl) (by kernel_rfl) (fun _ _ _ h => h) (YG.call (by rfl) (fun _ => by go_simp) (fun u _ => HCT.out u)) ?_
  simp only [Act.put, List.setIfInBounds_toArray, List.set_cons_zero, List.set_cons_succ]
  refine wpX_take 3 (v := .agg (cellsB y)) (oi := { dst := some 8, op := Op.call { callee := Callee.value (Operand.func 39), args := #[Operand.tmp 5, Operand.tmp 7], argTypes := #[27, 24] }, type := 24, pos := "ref.go:22", after := #[{ on := 0, ground := Ground.data }, { on := 2, ground := Ground.data }, { on := 2, ground := Ground.chain }], guard := none }) (oL := { dst := none, op := Op.store 24 (Operand.tmp 4) (Operand.tmp 8), type := 0, pos := "ref.go:22", after := #[{ on := 3, ground := Ground.data }, { on := 3, ground := Ground.chain }, { on := 0, ground := Ground.phase }, { on := 1, ground := Ground.phase }, { on := 2, ground := Ground.phase }, { on := 3, ground := Ground.phase }], guard := none }) (clo_and (clo_row _ _ _) (clo_and (clo_row _ _ _) (clo_grown _))) rfl rfl rfl (by kernel_rfl) (by kernel_rfl) (by kernel_rfl) (by kernel_rfl) (by kernel_rfl) (fun _ _ _ h => h) (YG.call (by rfl) (fun _ => by go_simp) (fun u _ => HEN.out u)) ?_
  simp only [Act.put, List.setIfInBounds_toArray, List.set_cons_zero, List.set_cons_succ]
  refine wpX_last (oL := { dst := none, op := Op.store 24 (Operand.tmp 4) (Operand.tmp 8), type := 0, pos := "ref.go:22", after := #[{ on := 3, ground := Ground.data }, { on := 3, ground := Ground.chain }, { on := 0, ground := Ground.phase }, { on := 1, ground := Ground.phase }, { on := 2, ground := Ground.phase }, { on := 3, ground := Ground.phase }], guard := none }) rfl (by kernel_rfl) (by kernel_rfl) (by rfl) (fun u4 hS4 K4 hK4 => ?_)
  refine wp_store_row 24 (.tmp 4) (.tmp 8) rfl g4 (cellsB y) rfl rfl 24 (cellsB z16) hS4.2.1 (by rw [cellsB_size, hyl]; kernel_rfl) (by rw [cellsB_size, cellsB_size, hyl]; rfl) (cellsB_one _) (hK4 _ _ ?_)
  simp only [Act.put]
  have hr9 : Row (u4.setRow g4 (cellsB y)) g4 24 (cellsB y) := setRow_heap u4 g4 _ _ 24 (0, 0) hS4.2.1
  have hg9 : w.grownBy (u4.setRow g4 (cellsB y)) none := grownBy_old hS4.2.2 (grownBy_setRow u4 g4 (cellsB y)) hz
  obtain ⟨w9, hw9⟩ : ∃ w9, w9 = u4.setRow g4 (cellsB y) := ⟨_, rfl⟩
  rw [← hw9] at hr9 hg9 ⊢
  have HR9 := Lib.hid hr9
  have HG9 := Lib.hid hg9
  clear hr9 hg9 hw9 hS4 hK4
  go_wp2_with fail
  refine bodyPost_ret (v := .agg (cellsB y)) (results_cell_row rfl _ _ g4 24 (cellsB y) (0, 0) _ rfl HR9.out Try.underlying24 rfl (by rw [cellsB_size, hyl]; kernel_rfl)) rfl ⟨rfl, HG9.out⟩
end Go.Proofs.Ytblgdfamomlklaa
/- the document's Stream. -/
namespace Go.Proofs.Ytblgdfamomlklaa
open Go.RowKit Go.Shelf

set_option maxRecDepth 100000 in
set_option maxHeartbeats 1000000 in
theorem refStream_neg (key : List UInt8) (hkl : key.length = 16) (x y : Int) (hy : y < 0) (w : World) :
    Calls Try.prog 22 #[aggB key, .int .i64 x, .int .i64 y] w fun e w' => e = .returned (.tuple #[.slice none 0 0, .int .i64 2]) ∧ w.grownBy w' none := by
  have hd2 : decide (y < 0) = true := decide_eq_true (hy)
  unfold aggB
  go_enter Try.func22, Try.ntmps22
  go_upto_region 1 with (refine wpList_boxed rfl rfl (cellsB key) rfl ?_; intro W1 hs1 hg1 hr1; have HG1 := Lib.hid hg1; clear hs1 hg1 hr1)
  go_wp2_with fail
  refine bodyPost_ret (results_tmp2 rfl _ _ _) rfl ⟨rfl, HG1.out⟩

set_option maxRecDepth 100000 in
set_option maxHeartbeats 1000000 in
theorem refStream_low (key : List UInt8) (hkl : key.length = 16) (x y : Int) (hy : 0 ≤ y) (hx : x < 0) (w : World) :
    Calls Try.prog 22 #[aggB key, .int .i64 x, .int .i64 y] w fun e w' => e = .returned (.tuple #[.slice none 0 0, .int .i64 40]) ∧ w.grownBy w' none := by
  have hd2 : decide (y < 0) = false := decide_eq_false (by omega)
  have hd3 : decide (x < 0) = true := decide_eq_true (hx)
  unfold aggB
  go_enter Try.func22, Try.ntmps22
  go_upto_region 1 with (refine wpList_boxed rfl rfl (cellsB key) rfl ?_; intro W1 hs1 hg1 hr1; have HG1 := Lib.hid hg1; clear hs1 hg1 hr1)
  go_wp2_with fail
  refine bodyPost_ret (results_tmp2 rfl _ _ _) rfl ⟨rfl, HG1.out⟩

set_option maxRecDepth 100000 in
set_option maxHeartbeats 1000000 in
theorem refStream_high (key : List UInt8) (hkl : key.length = 16) (x y : Int) (hy : 0 ≤ y) (hx : 4611686018427387904 < x) (w : World) :
    Calls Try.prog 22 #[aggB key, .int .i64 x, .int .i64 y] w fun e w' => e = .returned (.tuple #[.slice none 0 0, .int .i64 40]) ∧ w.grownBy w' none := by
  have hd2 : decide (y < 0) = false := decide_eq_false (by omega)
  have hd3 : decide (x < 0) = false := decide_eq_false (by omega)
  have hd4 : decide (4611686018427387904 < x) = true := decide_eq_true (hx)
  unfold aggB
  go_enter Try.func22, Try.ntmps22
  go_upto_region 1 with (refine wpList_boxed rfl rfl (cellsB key) rfl ?_; intro W1 hs1 hg1 hr1; have HG1 := Lib.hid hg1; clear hs1 hg1 hr1)
  go_wp2_with fail
  refine bodyPost_ret (results_tmp2 rfl _ _ _) rfl ⟨rfl, HG1.out⟩

set_option maxRecDepth 100000 in
set_option maxHeartbeats 1000000 in
theorem refStream_far (key : List UInt8) (hkl : key.length = 16) (x y : Int) (hy : 0 ≤ y) (hx : 0 ≤ x) (hx2 : x ≤ 4611686018427387904) (hf : 4611686018427387904 - x < y) (w : World) :
    Calls Try.prog 22 #[aggB key, .int .i64 x, .int .i64 y] w fun e w' => e = .returned (.tuple #[.slice none 0 0, .int .i64 40]) ∧ w.grownBy w' none := by
  have hd2 : decide (y < 0) = false := decide_eq_false (by omega)
  have hd3 : decide (x < 0) = false := decide_eq_false (by omega)
  have hd4 : decide (4611686018427387904 < x) = false := decide_eq_false (by omega)
  have hd5 : decide (4611686018427387904 - x < y) = true := decide_eq_true (hf)
  have hw3 := wrapM x hx hx2
  unfold aggB
  go_enter Try.func22, Try.ntmps22
  go_upto_region 1 with (refine wpList_boxed rfl rfl (cellsB key) rfl ?_; intro W1 hs1 hg1 hr1; have HG1 := Lib.hid hg1; clear hs1 hg1 hr1)
  go_wp2_with fail
  refine bodyPost_ret (results_tmp2 rfl _ _ _) rfl ⟨rfl, HG1.out⟩

theorem kst_snoc (B : Nat → List UInt8) (p n i : Nat) (h : i < n) : ((kst B p n).take i).map bval ++ [.int .u8 ((((B ((p + i) / 16)).getD ((p + i) % 16) 0).toNat : Nat) : Int)] = ((kst B p n).take (i + 1)).map bval := by
  have hl : i < (kst B p n).length := by rw [kst_len]; exact h
  have e : (kst B p n)[i] = (B ((p + i) / 16)).getD ((p + i) % 16) 0 := by
    have h2 := kst_get B p n i h
    rw [List.getElem?_eq_getElem hl] at h2
    exact Option.some.inj h2
  rw [List.take_succ_eq_append_getElem hl, List.map_append, e]
  rfl
theorem tq16 (x : Nat) : (x : Int).tdiv 16 = ((x / 16 : Nat) : Int) := by rw [Int.tdiv_eq_ediv_of_nonneg (by omega)]; omega
theorem tm16 (x : Nat) : (x : Int).tmod 16 = ((x % 16 : Nat) : Int) := by rw [Int.tmod_eq_emod_of_nonneg (by omega)]; omega
theorem u64_small (x : Nat) (h : x ≤ 4611686018427387904) : IntKind.u64.wrap (x : Int) = (x : Int) := IntWalk.u64_in _ (by omega)
theorem i64_mid (x : Nat) (h : x ≤ 4611686018427387904) : IntKind.i64.wrap (x : Int) = (x : Int) := IntWalk.i64_in _ (by omega)
theorem w64_mid (a b x : Nat) (h : x ≤ 4611686018427387904) (e : a + b = x) : wrap64 ((a : Int) + (b : Int)) = (x : Int) := by
  rw [IntWalk.wrap64_in _ (by omega)]; omega

set_option maxRecDepth 100000 in
set_option maxHeartbeats 4000000 in
theorem refStream_ok (key : List UInt8) (hkl : key.length = 16) (p n : Nat) (hp : p ≤ 4611686018427387904) (hn : n ≤ 4000000100) (hpn : n ≤ 4611686018427387904 - p) (w : World) :
    Calls Try.prog 22 #[aggB key, .int .i64 (p : Int), .int .i64 (n : Int)] w fun e w' => ∃ a c, e = .returned (.tuple #[.slice a n c, .int .i64 0]) ∧ BOwn w' w.heap.size a n c (kst (ksB key) p n) ∧ w.grownBy w' none := by
  have HPN := Lib.hid hpn
  have HP := Lib.hid hp
  have hw3 := wrapM (p : Int) (by omega) (by omega)
  have hd2 : decide ((n : Int) < 0) = false := decide_eq_false (by omega)
  have hd3 : decide ((p : Int) < 0) = false := decide_eq_false (by omega)
  have hd4 : decide (4611686018427387904 < (p : Int)) = false := decide_eq_false (by omega)
  have hd5 : decide (4611686018427387904 - (p : Int) < (n : Int)) = false := decide_eq_false (by omega)
  clear hp hpn
  obtain ⟨ib, hib, hibz, hibs⟩ := block_info
  obtain ⟨B, hB⟩ : ∃ B, B = ksB key := ⟨_, rfl⟩
  have hbl : ∀ u j, j < 18446744073709551616 → Calls Try.prog 16 #[aggB key, .int .u64 ((j : Nat) : Int)] u fun e w' => e = .returned (aggB (B j)) ∧ u.grownBy w' none := fun u j hj => by rw [hB]; exact refBlock_n key hkl j hj u
  have HBL := Lib.hid hbl
  have HBN := Lib.hid (show ∀ j, (B j).length = 16 by rw [hB]; exact ksB_len key)
  rw [← hB]
  clear hbl hB
  unfold aggB at *
  go_enter Try.func22, Try.ntmps22
  go_upto_region 1 with (refine wpList_boxed rfl rfl (cellsB key) rfl ?_; intro W1 hs1 hg1 hr1; have HS1 := Lib.hid hs1; have HG1 := Lib.hid hg1; have HR1 := Lib.hid hr1; clear hs1 hg1 hr1)
  go_wp2_with (refine wpList_made rfl rfl hib hibz ?_; intro W2 hs2 hg2 hr2; have HG2 := Lib.hid (grownBy_trans HG1.out hg2); have HR2 := Lib.hid (show Row W2 W1.heap.size 24 (cellsB z16) from hr2); have HK2 := Lib.hid (HR1.out.grown hg2); clear hs2 hg2 hr2)
  clear hd2 hd3 hd4 hd5 hw3
  obtain ⟨g3, hg3⟩ : ∃ g3, g3 = w.heap.size := ⟨_, rfl⟩
  obtain ⟨g11, hg11⟩ : ∃ g11, g11 = W1.heap.size := ⟨_, rfl⟩
  have hz : w.heap.size ≤ g11 ∧ w.heap.size ≤ g3 ∧ g3 < g11 ∧ g11 < W2.heap.size := by
    have h1 := HS1.out
    have h2 := HR2.out.lt
    omega
  have HZ := Lib.hid hz
  have HWZ := Lib.hid HG2.out.size
  rw [← hg3, ← hg11]
  rw [← hg3] at HK2
  rw [← hg11] at HR2
  clear hg3 hg11 hz HS1 HR1
  go_loopw [8, 9, 10, 12] (fun vo vh vn vi wr => ∃ (i : Nat) (ao : Option Addr) (co : Nat) (hv : Bool) (nb : Nat) (bl : List UInt8), i ≤ n ∧ vi = .int .i64 i ∧ vo = .slice ao i co ∧ vh = .bool hv ∧ vn = .int .i64 nb ∧ BOwn wr W2.heap.size ao i co ((kst B p n).take i) ∧ Row wr g3 27 (cellsB key) ∧ Row wr g11 24 (cellsB bl) ∧ bl.length = 16 ∧ (hv = true → bl = B nb) ∧ w.grownBy wr none ∧ W2.heap.size ≤ wr.heap.size)
    (fun _ _ _ vi _ => n - (intOf vi).toNat)
  case atStart => exact ⟨0, none, 0, false, 0, z16, Nat.zero_le _, rfl, rfl, rfl, rfl, Own.nil _ _ _ _ _, HK2.out, HR2.out, rfl, fun h => (by cases h), HG2.out, Nat.le_refl _⟩
  case round =>
    obtain ⟨i, ao, co, hv, nb, bl, hi, rfl, rfl, rfl, rfl, ho, hk, hr, hbl, hbb, hg, hsz⟩ := hrel
    have HO := Lib.hid ho
    have HK := Lib.hid hk
    have HR := Lib.hid hr
    have HBB := Lib.hid hbb
    have HG := Lib.hid hg
    clear ho hk hr hbb hg
    by_cases hlt : i < n
    · have hdi : decide ((i : Int) < (n : Int)) = true := decide_eq_true (by omega)
      have hdj : decide (i < n) = true := decide_eq_true hlt
      obtain ⟨pi, hpi⟩ : ∃ pi, pi = p + i := ⟨_, rfl⟩
      have hpb : pi ≤ 4611686018427387904 := by have := HPN.out; have := HP.out; omega
      obtain ⟨q, hq⟩ : ∃ q, q = pi / 16 := ⟨_, rfl⟩
      obtain ⟨r, hr⟩ : ∃ r, r = pi % 16 := ⟨_, rfl⟩
      have hr16 : r < 16 := by omega
      have hqb : q < 18446744073709551616 := by omega
      have hqm : q ≤ 4611686018427387904 := by omega
      have hsn := kst_snoc B p n i hlt
      rw [← hpi, ← hq, ← hr] at hsn
      have hr62 : r ≤ 4611686018427387904 := by omega
      have t1 := tq16 pi
      have t2 := tm16 pi
      rw [← hq] at t1
      rw [← hr] at t2
      have t3 := u64_small q hqm
      have t4 := i64_mid q hqm
      have t5 := w64_mid p i pi hpb hpi.symm
      have t6 := i64_mid r hr62
      have HSN := Lib.hid hsn
      have HT := Lib.hid t5
      clear hsn hpi hq hr hqm
      have HT1 := Lib.hid t1
      have HT2 := Lib.hid t2
      have HT3 := Lib.hid t3
      have HT4 := Lib.hid t4
      have HT6 := Lib.hid t6
      clear t1 t2 t3 t4 t5 t6 hr62
      by_cases hc : hv = true ∧ nb = q
      · obtain ⟨rfl, rfl⟩ := hc
        have hbq : bl = B nb := HBB.out rfl
        have hcell := Row.cell HR.out r
        have hgl : bl.getD r 0 = (B nb).getD r 0 := by rw [hbq]
        have hc2 : wr.cell? ⟨g11, r, none⟩ = some (.int .u8 ((((B nb).getD r 0).toNat : Nat) : Int)) := by
          rw [hcell, ← hgl]
          simp [cellsB, bval, hbl, hr16]
        obtain ⟨yb, hyb⟩ : ∃ yb, yb = (B nb).getD r 0 := ⟨_, rfl⟩
        rw [← hyb] at HSN hc2
        have t1 := HT1.out
        have t2 := HT2.out
        have t3 := HT3.out
        have t4 := HT4.out
        have t5 := HT.out
        have t6 := HT6.out
        have hr1 : ((r : Int) < 16) = True := eq_true (by omega)
        clear hbq hcell hgl hyb
        go_wp2_with (at_builtin; refine wpList_push elB rfl (.tmp 50) (.tmp 55) rfl rfl HO.out (.int .u8 (yb.toNat : Int)) rfl rfl (by unfold maxLen; omega) (by omega) hsz ?_; intro gE cE w5 hown5 hgr5; have HO5 := Lib.hid hown5; have HGR5 := Lib.hid hgr5; clear hown5 hgr5)
        clear t1 t2 t3 t4 t5 t6 hc2 hr1
        have hz := HZ.out
        have hin : ∀ g, In ao co g → W2.heap.size ≤ g := fun g hg => (Own.inn HO.out hg).1
        have hgs := HGR5.out.ch.size
        have hsl := hsz
        refine ⟨⟨i + 1, _, cE, true, nb, bl, by omega, by go_num, rfl, rfl, rfl, ?_, HK.out.ch HGR5.out.ch (fun h => by have := hin _ h; omega), HR.out.ch HGR5.out.ch (fun h => by have := hin _ h; omega), hbl, fun _ => HBB.out rfl, Ch.fresh HG.out HGR5.out.ch (fun g hg h => by have := hin _ h; have := HWZ.out; omega), by omega⟩, ?_⟩
        · have h5 := HO5.out
          rw [HSN.out] at h5
          exact h5
        · simp only [intOf]
          omega
      · cases hv with
        | false =>
          obtain ⟨yb, hyb⟩ : ∃ yb, yb = (B q).getD r 0 := ⟨_, rfl⟩
          rw [← hyb] at HSN
          have HYB := Lib.hid hyb
          have hbq16 := HBN.out q
          obtain ⟨bq, hbq⟩ : ∃ bq, bq = B q := ⟨_, rfl⟩
          have hcl := fun u => HBL.out u q hqb
          rw [← hbq] at hbq16 hcl
          have HCL := Lib.hid hcl
          have HBQ := Lib.hid hbq
          have t1 := HT1.out
          have t2 := HT2.out
          have t3 := HT3.out
          have t4 := HT4.out
          have t5 := HT.out
          have t6 := HT6.out
          have hr1 : ((r : Int) < 16) = True := eq_true (by omega)
          clear hyb hcl hbq hqb
          go_wp2_with (first
            | (refine wpList_load_row rfl 27 _ rfl g3 rfl 27 (cellsB key) (0, 0) _ HK.out Try.underlying27 rfl (by rw [cellsB_size, hkl]; kernel_rfl) ?_)
            | (go_at_call 16; refine (HCL.out wr).mono ?_; rintro e W5 ⟨rfl, hg5⟩; have HO5' := Lib.hid (HO.out.grown hg5); have HK5 := Lib.hid (HK.out.grown hg5); have HR5 := Lib.hid (HR.out.grown hg5); have HG5 := Lib.hid (grownBy_trans HG.out hg5); have HS5 := Lib.hid (Nat.le_trans hsz hg5.size); clear hg5)
            | (refine wpList_putrow rfl rfl g11 rfl (cellsB bq) rfl HR5.out (by rw [cellsB_size, hbq16]; kernel_rfl) (by rw [cellsB_size, cellsB_size, hbl, hbq16]) (cellsB_one _) ?_; intro W6 hg6 hr6; have HO6 := Lib.hid (show BOwn W6 W2.heap.size ao i co _ from Own.ch HO5'.out (Ch.ofSome (S := fun g => g = g11) hg6 rfl) (fun h0 g e h => by have h1 := (Own.inn HO5'.out ⟨h0, e⟩).1; have h2 := HZ.out; omega)); have HK6 := Lib.hid (HK5.out.ch (Ch.ofSome (S := fun g => g = g11) hg6 rfl) (by have h2 := HZ.out; omega)); have HR6 := Lib.hid hr6; have HG6 := Lib.hid (grownBy_old HG5.out hg6 HZ.out.1); have HS6 := Lib.hid (Nat.le_trans HS5.out hg6.size); have c6 : W6.cell? ⟨g11, r, none⟩ = some (.int .u8 (yb.toNat : Int)) := (by rw [Row.cell hr6 r, HYB.out, ← HBQ.out]; simp [cellsB, bval, hbq16, hr16]); clear hg6 hr6)
            | (at_builtin; refine wpList_push elB rfl (.tmp 50) (.tmp 55) rfl rfl HO6.out (.int .u8 (yb.toNat : Int)) rfl rfl (by unfold maxLen; omega) (by omega) HS6.out ?_; intro gE cE w5 hown5 hgr5; have HO5 := Lib.hid hown5; have HGR5 := Lib.hid hgr5; clear hown5 hgr5))
          clear t1 t2 t3 t4 t5 t6 c6
          have hz := HZ.out
          have hin : ∀ g, In ao co g → W2.heap.size ≤ g := fun g hg => (Own.inn HO6.out hg).1
          have hgs := HGR5.out.ch.size
          have hsl := HS6.out
          refine ⟨⟨i + 1, _, cE, true, q, bq, by omega, by go_num, rfl, rfl, rfl, ?_, HK6.out.ch HGR5.out.ch (fun h => by have := hin _ h; omega), HR6.out.ch HGR5.out.ch (fun h => by have := hin _ h; omega), hbq16, fun _ => HBQ.out, Ch.fresh HG6.out HGR5.out.ch (fun g hg h => by have := hin _ h; have := HWZ.out; omega), by omega⟩, ?_⟩
          · have h5 := HO5.out
            rw [HSN.out] at h5
            exact h5
          · simp only [intOf]
            omega
        | true =>
          have hnq : nb ≠ q := fun h => hc ⟨rfl, h⟩
          have hn1 : decide ((nb : Int) = (q : Int)) = false := decide_eq_false (by omega)
          have hn2 : ((nb : Int) != (q : Int)) = true := by simp; omega
          have hn3 : ((nb : Int) == (q : Int)) = false := by simp; omega
          have hn4 : decide (nb = q) = false := decide_eq_false hnq
          obtain ⟨yb, hyb⟩ : ∃ yb, yb = (B q).getD r 0 := ⟨_, rfl⟩
          rw [← hyb] at HSN
          have HYB := Lib.hid hyb
          have hbq16 := HBN.out q
          obtain ⟨bq, hbq⟩ : ∃ bq, bq = B q := ⟨_, rfl⟩
          have hcl := fun u => HBL.out u q hqb
          rw [← hbq] at hbq16 hcl
          have HCL := Lib.hid hcl
          have HBQ := Lib.hid hbq
          have t1 := HT1.out
          have t2 := HT2.out
          have t3 := HT3.out
          have t4 := HT4.out
          have t5 := HT.out
          have t6 := HT6.out
          have hr1 : ((r : Int) < 16) = True := eq_true (by omega)
          clear hyb hcl hbq hqb
          go_wp2_with (first
            | (refine wpList_load_row rfl 27 _ rfl g3 rfl 27 (cellsB key) (0, 0) _ HK.out Try.underlying27 rfl (by rw [cellsB_size, hkl]; kernel_rfl) ?_)
            | (go_at_call 16; refine (HCL.out wr).mono ?_; rintro e W5 ⟨rfl, hg5⟩; have HO5' := Lib.hid (HO.out.grown hg5); have HK5 := Lib.hid (HK.out.grown hg5); have HR5 := Lib.hid (HR.out.grown hg5); have HG5 := Lib.hid (grownBy_trans HG.out hg5); have HS5 := Lib.hid (Nat.le_trans hsz hg5.size); clear hg5)
            | (refine wpList_putrow rfl rfl g11 rfl (cellsB bq) rfl HR5.out (by rw [cellsB_size, hbq16]; kernel_rfl) (by rw [cellsB_size, cellsB_size, hbl, hbq16]) (cellsB_one _) ?_; intro W6 hg6 hr6; have HO6 := Lib.hid (show BOwn W6 W2.heap.size ao i co _ from Own.ch HO5'.out (Ch.ofSome (S := fun g => g = g11) hg6 rfl) (fun h0 g e h => by have h1 := (Own.inn HO5'.out ⟨h0, e⟩).1; have h2 := HZ.out; omega)); have HK6 := Lib.hid (HK5.out.ch (Ch.ofSome (S := fun g => g = g11) hg6 rfl) (by have h2 := HZ.out; omega)); have HR6 := Lib.hid hr6; have HG6 := Lib.hid (grownBy_old HG5.out hg6 HZ.out.1); have HS6 := Lib.hid (Nat.le_trans HS5.out hg6.size); have c6 : W6.cell? ⟨g11, r, none⟩ = some (.int .u8 (yb.toNat : Int)) := (by rw [Row.cell hr6 r, HYB.out, ← HBQ.out]; simp [cellsB, bval, hbq16, hr16]); clear hg6 hr6)
            | (at_builtin; refine wpList_push elB rfl (.tmp 50) (.tmp 55) rfl rfl HO6.out (.int .u8 (yb.toNat : Int)) rfl rfl (by unfold maxLen; omega) (by omega) HS6.out ?_; intro gE cE w5 hown5 hgr5; have HO5 := Lib.hid hown5; have HGR5 := Lib.hid hgr5; clear hown5 hgr5))
          clear t1 t2 t3 t4 t5 t6 c6
          have hz := HZ.out
          have hin : ∀ g, In ao co g → W2.heap.size ≤ g := fun g hg => (Own.inn HO6.out hg).1
          have hgs := HGR5.out.ch.size
          have hsl := HS6.out
          refine ⟨⟨i + 1, _, cE, true, q, bq, by omega, by go_num, rfl, rfl, rfl, ?_, HK6.out.ch HGR5.out.ch (fun h => by have := hin _ h; omega), HR6.out.ch HGR5.out.ch (fun h => by have := hin _ h; omega), hbq16, fun _ => HBQ.out, Ch.fresh HG6.out HGR5.out.ch (fun g hg h => by have := hin _ h; have := HWZ.out; omega), by omega⟩, ?_⟩
          · have h5 := HO5.out
            rw [HSN.out] at h5
            exact h5
          · simp only [intOf]
            omega
    · have hdi : decide ((i : Int) < (n : Int)) = false := decide_eq_false (by omega)
      have hdj : decide (i < n) = false := decide_eq_false hlt
      obtain rfl : i = n := by omega
      rw [List.take_of_length_le (by rw [kst_len]; exact Nat.le_refl _)] at HO
      go_wp2_with fail
      refine bodyPost_ret (results_tmp2 rfl _ _ _) rfl ?_
      exact ⟨_, _, rfl, BOwn.mono HO.out HWZ.out, HG.out⟩
end Go.Proofs.Ytblgdfamomlklaa
/- the document's Stream at every number, and its Apply. -/
namespace Go.Proofs.Ytblgdfamomlklaa
open Go.RowKit

theorem cell_in {w : World} {a : Option Addr} {l : List UInt8} (h : BLies w a l) {i : Nat} (hi : i < l.length) {g o : Nat} (ha : a = some ⟨g, o, none⟩) : w.cell? ⟨g, o + i, none⟩ = some (.int .u8 ((l[i]).toNat : Int)) := by
  obtain ⟨b, off, e, hc⟩ := h i hi
  rw [ha] at e
  injection e with e; injection e with e1 e2
  subst e1; subst e2
  exact hc

theorem refStream_n (key : List UInt8) (hkl : key.length = 16) (x y : Int) (hy : y ≤ 4000000100) (w : World) :
    Calls Try.prog 22 #[aggB key, .int .i64 x, .int .i64 y] w fun e w' => ∃ a n c, e = .returned (.tuple #[.slice a n c, .int .i64 (stE x y)]) ∧ BOwn w' w.heap.size a n c (stL key x y) ∧ w.grownBy w' none := by
  have err : ∀ k : Int, k ≠ 0 → stE x y = k → Calls Try.prog 22 #[aggB key, .int .i64 x, .int .i64 y] w (fun e w' => e = .returned (.tuple #[.slice none 0 0, .int .i64 k]) ∧ w.grownBy w' none) →
      Calls Try.prog 22 #[aggB key, .int .i64 x, .int .i64 y] w fun e w' => ∃ a n c, e = .returned (.tuple #[.slice a n c, .int .i64 (stE x y)]) ∧ BOwn w' w.heap.size a n c (stL key x y) ∧ w.grownBy w' none := by
    intro k hk he h
    refine h.mono ?_
    rintro e w' ⟨rfl, hg⟩
    refine ⟨none, 0, 0, by rw [he], ?_, hg⟩
    rw [show stL key x y = [] by unfold stL; rw [he, if_neg hk]]
    exact Own.nil _ _ _ _ _
  by_cases h1 : y < 0
  · exact err 2 (by decide) (by unfold stE; rw [if_pos h1]) (refStream_neg key hkl x y h1 w)
  by_cases h2 : x < 0
  · exact err 40 (by decide) (by unfold stE; rw [if_neg h1, if_pos (.inl h2)]) (refStream_low key hkl x y (by omega) h2 w)
  by_cases h3 : 4611686018427387904 < x
  · exact err 40 (by decide) (by unfold stE; rw [if_neg h1, if_pos (.inr (.inl h3))]) (refStream_high key hkl x y (by omega) h3 w)
  by_cases h4 : 4611686018427387904 - x < y
  · exact err 40 (by decide) (by unfold stE; rw [if_neg h1, if_pos (.inr (.inr h4))]) (refStream_far key hkl x y (by omega) (by omega) (by omega) h4 w)
  have he : stE x y = 0 := by unfold stE; rw [if_neg h1, if_neg (by omega)]
  rw [he, show stL key x y = kst (ksB key) x.toNat y.toNat by unfold stL; rw [if_pos he]]
  obtain ⟨p, rfl⟩ : ∃ p : Nat, x = (p : Int) := ⟨x.toNat, by omega⟩
  obtain ⟨n, rfl⟩ : ∃ n : Nat, y = (n : Int) := ⟨y.toNat, by omega⟩
  refine (refStream_ok key hkl p n (by omega) (by omega) (by omega) w).mono ?_
  rintro e w' ⟨a, c, rfl, ho, hg⟩
  exact ⟨_, _, _, rfl, by simpa using ho, hg⟩

set_option maxRecDepth 100000 in
set_option maxHeartbeats 4000000 in
theorem refApply_n (key : List UInt8) (hkl : key.length = 16) (x : Int) (a : Option Addr) (n c : Nat) (l : List UInt8) (hl : l.length = n) (hn : n ≤ 4000000000) (w0 : World) (ha : BLies w0 a l) :
    Calls Try.prog 23 #[aggB key, .int .i64 x, .slice a n c] w0 fun e w' => ∃ a' n' c', e = .returned (.tuple #[.slice a' n' c', .int .i64 (stE x (n : Int))]) ∧ BOwn w' w0.heap.size a' n' c' (apL key x l) ∧ w0.grownBy w' none := by
  have HA0 := Lib.hid ha
  have HL1 := Lib.hid hl
  clear ha hl
  have hst := fun w => refStream_n key hkl x (n : Int) (by omega) w
  obtain ⟨E, hE⟩ : ∃ E, E = stE x (n : Int) := ⟨_, rfl⟩
  obtain ⟨S, hS⟩ : ∃ S, S = stL key x (n : Int) := ⟨_, rfl⟩
  rw [← hE, ← hS] at hst
  rw [← hE]
  have HST := Lib.hid hst
  have HE := Lib.hid hE
  have HS := Lib.hid hS
  obtain ⟨X, hAP⟩ : ∃ AP, AP = apL key x l := ⟨_, rfl⟩
  rw [← hAP]
  have HAP := Lib.hid hAP
  clear hst hE hS hAP
  unfold aggB
  go_enter Try.func23, Try.ntmps23
  go_upto_region 1 with (refine wpList_boxed rfl rfl (cellsB key) rfl ?_; intro W1 hs1 hg1 hr1; have HG1 := Lib.hid hg1; have HR1 := Lib.hid hr1; clear hs1 hg1 hr1)
  by_cases he : E = 0
  · subst he
    have hsl : S = kst (ksB key) x.toNat n := by rw [HS.out, stL, if_pos HE.out.symm]; rfl
    have hap : apL key x l = xobL l S := by rw [apL, HL1.out, if_pos HE.out.symm, hsl]
    have hsn : S.length = n := by rw [hsl, kst_len]
    have HL2 := Lib.hid hsn
    have HX := Lib.hid (HAP.out.trans hap)
    have HXN := Lib.hid (show X.length = n by rw [HAP.out, hap, xobL_len (by rw [HL1.out, hsn]), HL1.out])
    clear hsl hap hsn
    go_wp2_with (first
      | (refine wpList_load_row rfl 27 _ rfl w0.heap.size rfl 27 (cellsB key) (0, 0) _ HR1.out Try.underlying27 rfl (by rw [cellsB_size, hkl]; kernel_rfl) ?_)
      | (go_at_call 22; refine (HST.out _).mono ?_; rintro e w ⟨ab, n2, cb, rfl, ho2, hg2⟩; have HO2 := Lib.hid ho2; have HG2 := Lib.hid (grownBy_trans HG1.out hg2); have HZ := Lib.hid (Nat.le_trans HG1.out.size hg2.size); obtain rfl : n = n2 := (by have := BOwn.len ho2; have := HL2.out; omega); have HA := Lib.hid (HA0.out.grown HG2.out); have HB := Lib.hid (BOwn.lies ho2); clear ho2 hg2))
    go_loopw [10, 11] (fun vo vi wr => ∃ (i : Nat) (ao : Option Addr) (co : Nat), i ≤ n ∧ vi = .int .i64 i ∧ vo = .slice ao i co ∧ BOwn wr w.heap.size ao i co (X.take i) ∧ w.grownBy wr none) (fun _ vi _ => n - (intOf vi).toNat)
    case atStart => exact ⟨0, none, 0, Nat.zero_le _, rfl, rfl, Own.nil _ _ _ _ _, World.grownBy.refl _ _⟩
    case round =>
      obtain ⟨i, ao, co, hi, rfl, rfl, ho, hg⟩ := hrel
      have HO := Lib.hid ho
      have HG := Lib.hid hg
      clear ho hg
      by_cases hlt : i < n
      · have h1 : i < l.length := by rw [HL1.out]; exact hlt
        have h2 : i < S.length := by rw [HL2.out]; exact hlt
        obtain ⟨ga, oa, rfl⟩ := BLies.addr HA.out (by omega)
        obtain ⟨gb, ob, rfl⟩ := BLies.addr HB.out (by omega)
        obtain ⟨xb, hxb⟩ : ∃ xb, xb = l[i] := ⟨_, rfl⟩
        obtain ⟨yb, hyb⟩ : ∃ yb, yb = S[i] := ⟨_, rfl⟩
        have hca := cell_in HA.out h1 rfl
        have hcb := cell_in HB.out h2 rfl
        rw [← hxb] at hca
        rw [← hyb] at hcb
        have hold : ∀ {g k : Nat} {v : Value}, w.cell? ⟨g, k, none⟩ = some v → ∀ u, Ch (In ao co) wr u → u.cell? ⟨g, k, none⟩ = some v := fun {g k v} hc u hu => by
          have hgw : g < w.heap.size := World.block_lt_of_cell? w _ hc
          have hgr : g < wr.heap.size := Nat.lt_of_lt_of_le hgw HG.out.size
          exact (World.cell?_of_block (hu.block g hgr (fun h => by have := (Own.inn HO.out h).1; omega))).trans ((World.cell?_of_block (HG.out.block g hgw (by simp))).trans hc)
        have hc1 := hold hca
        have hc2 := hold hcb
        have hxo : bits .xor .u8 (xb.toNat : Int) (yb.toNat : Int) = ((xb ^^^ yb).toNat : Int) := xor_u8' xb yb
        have htk : (X.take i).map bval ++ [.int .u8 ((xb ^^^ yb).toNat : Int)] = (X.take (i + 1)).map bval := by
          have hXi : i < X.length := by rw [HXN.out]; exact hlt
          have e : X[i] = xb ^^^ yb := by
            have e2 : X[i]? = some (l[i] ^^^ S[i]) := by
              rw [HX.out, xobL, List.getElem?_zipWith, List.getElem?_eq_getElem h1, List.getElem?_eq_getElem h2]
            rw [List.getElem?_eq_getElem hXi] at e2
            rw [Option.some.inj e2, hxb, hyb]
          rw [List.take_succ_eq_append_getElem hXi, List.map_append, e]
          rfl
        have HC1 := Lib.hid hc1
        have HC2 := Lib.hid hc2
        have HXO := Lib.hid hxo
        have HTK := Lib.hid htk
        have HLB : Hid (i < n) := hlt
        have HWS : Hid (w.heap.size ≤ wr.heap.size) := HG.out.size
        clear hold hc1 hc2 hxo htk hca hcb hxb hyb h1 h2
        go_wp2_with fail
        refine wp_regionX (AppS wr w.heap.size 5 ao i co ((X.take i).map bval)) 12 (by kernel_rfl) ⟨Ch.ofNone (grownBy_drewN wr 1 none) _, HO.out⟩ ?_
        refine wpX_take 0 (v := .slice ao i co) (oi := { dst := some 29, op := Op.move (Operand.tmp 10), type := 34, pos := "ref.go:57", after := #[], guard := none }) (oL := { dst := some 10, op := Op.assign (Operand.tmp 40), type := 34, pos := "ref.go:57", after := #[{ on := 11, ground := Ground.data }, { on := 11, ground := Ground.chain }, { on := 0, ground := Ground.phase }, { on := 1, ground := Ground.phase }, { on := 2, ground := Ground.phase }, { on := 3, ground := Ground.phase }, { on := 4, ground := Ground.phase }, { on := 5, ground := Ground.phase }, { on := 6, ground := Ground.phase }, { on := 7, ground := Ground.phase }, { on := 8, ground := Ground.phase }, { on := 9, ground := Ground.phase }, { on := 10, ground := Ground.phase }, { on := 11, ground := Ground.phase }], guard := none }) (clo_app _ _ _ _ _ _ _) rfl rfl rfl (by kernel_rfl) (by kernel_rfl) (by kernel_rfl) (by kernel_rfl) (by kernel_rfl) (fun _ _ _ h => h) (YG.val (by rfl) (fun _ _ => rfl)) ?_
        simp only [Act.put, List.setIfInBounds_toArray, List.set_cons_zero, List.set_cons_succ]
        refine wpX_take 1 (v := .slice (some ⟨ga, oa, none⟩) n c) (oi := { dst := some 30, op := Op.move (Operand.tmp 2), type := 34, pos := "ref.go:57", after := #[], guard := none }) (oL := { dst := some 10, op := Op.assign (Operand.tmp 40), type := 34, pos := "ref.go:57", after := #[{ on := 11, ground := Ground.data }, { on := 11, ground := Ground.chain }, { on := 0, ground := Ground.phase }, { on := 1, ground := Ground.phase }, { on := 2, ground := Ground.phase }, { on := 3, ground := Ground.phase }, { on := 4, ground := Ground.phase }, { on := 5, ground := Ground.phase }, { on := 6, ground := Ground.phase }, { on := 7, ground := Ground.phase }, { on := 8, ground := Ground.phase }, { on := 9, ground := Ground.phase }, { on := 10, ground := Ground.phase }, { on := 11, ground := Ground.phase }], guard := none }) (clo_app _ _ _ _ _ _ _) rfl rfl rfl (by kernel_rfl) (by kernel_rfl) (by kernel_rfl) (by kernel_rfl) (by kernel_rfl) (fun _ _ _ h => h) (YG.val (by rfl) (fun _ _ => rfl)) ?_
        simp only [Act.put, List.setIfInBounds_toArray, List.set_cons_zero, List.set_cons_succ]
        refine wpX_take 2 (v := .int .i64 (i : Int)) (oi := { dst := some 31, op := Op.move (Operand.tmp 11), type := 3, pos := "ref.go:57", after := #[], guard := none }) (oL := { dst := some 10, op := Op.assign (Operand.tmp 40), type := 34, pos := "ref.go:57", after := #[{ on := 11, ground := Ground.data }, { on := 11, ground := Ground.chain }, { on := 0, ground := Ground.phase }, { on := 1, ground := Ground.phase }, { on := 2, ground := Ground.phase }, { on := 3, ground := Ground.phase }, { on := 4, ground := Ground.phase }, { on := 5, ground := Ground.phase }, { on := 6, ground := Ground.phase }, { on := 7, ground := Ground.phase }, { on := 8, ground := Ground.phase }, { on := 9, ground := Ground.phase }, { on := 10, ground := Ground.phase }, { on := 11, ground := Ground.phase }], guard := none }) (clo_app _ _ _ _ _ _ _) rfl rfl rfl (by kernel_rfl) (by kernel_rfl) (by kernel_rfl) (by kernel_rfl) (by kernel_rfl) (fun _ _ _ h => h) (YG.val (by rfl) (fun _ _ => rfl)) ?_
        simp only [Act.put, List.setIfInBounds_toArray, List.set_cons_zero, List.set_cons_succ]
        refine wpX_take 3 (v := .pointer (some ⟨ga, oa + i, none⟩)) (oi := { dst := some 32, op := Op.indexAddr 34 (Operand.tmp 30) (Operand.tmp 31), type := 0, pos := "ref.go:57", after := #[{ on := 1, ground := Ground.data }, { on := 2, ground := Ground.data }], guard := none }) (oL := { dst := some 10, op := Op.assign (Operand.tmp 40), type := 34, pos := "ref.go:57", after := #[{ on := 11, ground := Ground.data }, { on := 11, ground := Ground.chain }, { on := 0, ground := Ground.phase }, { on := 1, ground := Ground.phase }, { on := 2, ground := Ground.phase }, { on := 3, ground := Ground.phase }, { on := 4, ground := Ground.phase }, { on := 5, ground := Ground.phase }, { on := 6, ground := Ground.phase }, { on := 7, ground := Ground.phase }, { on := 8, ground := Ground.phase }, { on := 9, ground := Ground.phase }, { on := 10, ground := Ground.phase }, { on := 11, ground := Ground.phase }], guard := none }) (clo_app _ _ _ _ _ _ _) rfl rfl rfl (by kernel_rfl) (by kernel_rfl) (by kernel_rfl) (by kernel_rfl) (by kernel_rfl) (fun _ _ _ h => h) (YG.val (by rfl) (fun _ _ => by have hlb := HLB.out; go_simp)) ?_
        simp only [Act.put, List.setIfInBounds_toArray, List.set_cons_zero, List.set_cons_succ]
        refine wpX_take 4 (v := .int .u8 (xb.toNat : Int)) (oi := { dst := some 33, op := Op.load 5 (Operand.tmp 32), type := 5, pos := "ref.go:57", after := #[{ on := 3, ground := Ground.data }], guard := none }) (oL := { dst := some 10, op := Op.assign (Operand.tmp 40), type := 34, pos := "ref.go:57", after := #[{ on := 11, ground := Ground.data }, { on := 11, ground := Ground.chain }, { on := 0, ground := Ground.phase }, { on := 1, ground := Ground.phase }, { on := 2, ground := Ground.phase }, { on := 3, ground := Ground.phase }, { on := 4, ground := Ground.phase }, { on := 5, ground := Ground.phase }, { on := 6, ground := Ground.phase }, { on := 7, ground := Ground.phase }, { on := 8, ground := Ground.phase }, { on := 9, ground := Ground.phase }, { on := 10, ground := Ground.phase }, { on := 11, ground := Ground.phase }], guard := none }) (clo_app _ _ _ _ _ _ _) rfl rfl rfl (by kernel_rfl) (by kernel_rfl) (by kernel_rfl) (by kernel_rfl) (by kernel_rfl) (fun _ _ _ h => h) (YG.val (by rfl) (fun u hu => by have hc := HC1.out u hu.1; go_simp)) ?_
        simp only [Act.put, List.setIfInBounds_toArray, List.set_cons_zero, List.set_cons_succ]
        refine wpX_take 5 (v := .slice (some ⟨gb, ob, none⟩) n cb) (oi := { dst := some 34, op := Op.move (Operand.tmp 8), type := 34, pos := "ref.go:57", after := #[], guard := none }) (oL := { dst := some 10, op := Op.assign (Operand.tmp 40), type := 34, pos := "ref.go:57", after := #[{ on := 11, ground := Ground.data }, { on := 11, ground := Ground.chain }, { on := 0, ground := Ground.phase }, { on := 1, ground := Ground.phase }, { on := 2, ground := Ground.phase }, { on := 3, ground := Ground.phase }, { on := 4, ground := Ground.phase }, { on := 5, ground := Ground.phase }, { on := 6, ground := Ground.phase }, { on := 7, ground := Ground.phase }, { on := 8, ground := Ground.phase }, { on := 9, ground := Ground.phase }, { on := 10, ground := Ground.phase }, { on := 11, ground := Ground.phase }], guard := none }) (clo_app _ _ _ _ _ _ _) rfl rfl rfl (by kernel_rfl) (by kernel_rfl) (by kernel_rfl) (by kernel_rfl) (by kernel_rfl) (fun _ _ _ h => h) (YG.val (by rfl) (fun _ _ => rfl)) ?_
        simp only [Act.put, List.setIfInBounds_toArray, List.set_cons_zero, List.set_cons_succ]
        refine wpX_take 6 (v := .int .i64 (i : Int)) (oi := { dst := some 35, op := Op.move (Operand.tmp 11), type := 3, pos := "ref.go:57", after := #[], guard := none }) (oL := { dst := some 10, op := Op.assign (Operand.tmp 40), type := 34, pos := "ref.go:57", after := #[{ on := 11, ground := Ground.data }, { on := 11, ground := Ground.chain }, { on := 0, ground := Ground.phase }, { on := 1, ground := Ground.phase }, { on := 2, ground := Ground.phase }, { on := 3, ground := Ground.phase }, { on := 4, ground := Ground.phase }, { on := 5, ground := Ground.phase }, { on := 6, ground := Ground.phase }, { on := 7, ground := Ground.phase }, { on := 8, ground := Ground.phase }, { on := 9, ground := Ground.phase }, { on := 10, ground := Ground.phase }, { on := 11, ground := Ground.phase }], guard := none }) (clo_app _ _ _ _ _ _ _) rfl rfl rfl (by kernel_rfl) (by kernel_rfl) (by kernel_rfl) (by kernel_rfl) (by kernel_rfl) (fun _ _ _ h => h) (YG.val (by rfl) (fun _ _ => rfl)) ?_
        simp only [Act.put, List.setIfInBounds_toArray, List.set_cons_zero, List.set_cons_succ]
        refine wpX_take 7 (v := .pointer (some ⟨gb, ob + i, none⟩)) (oi := { dst := some 36, op := Op.indexAddr 34 (Operand.tmp 34) (Operand.tmp 35), type := 0, pos := "ref.go:57", after := #[{ on := 5, ground := Ground.data }, { on := 6, ground := Ground.data }], guard := none }) (oL := { dst := some 10, op := Op.assign (Operand.tmp 40), type := 34, pos := "ref.go:57", after := #[{ on := 11, ground := Ground.data }, { on := 11, ground := Ground.chain }, { on := 0, ground := Ground.phase }, { on := 1, ground := Ground.phase }, { on := 2, ground := Ground.phase }, { on := 3, ground := Ground.phase }, { on := 4, ground := Ground.phase }, { on := 5, ground := Ground.phase }, { on := 6, ground := Ground.phase }, { on := 7, ground := Ground.phase }, { on := 8, ground := Ground.phase }, { on := 9, ground := Ground.phase }, { on := 10, ground := Ground.phase }, { on := 11, ground := Ground.phase }], guard := none }) (clo_app _ _ _ _ _ _ _) rfl rfl rfl (by kernel_rfl) (by kernel_rfl) (by kernel_rfl) (by kernel_rfl) (by kernel_rfl) (fun _ _ _ h => h) (YG.val (by rfl) (fun _ _ => by have hlb := HLB.out; go_simp)) ?_
        simp only [Act.put, List.setIfInBounds_toArray, List.set_cons_zero, List.set_cons_succ]
        refine wpX_take 8 (v := .int .u8 (yb.toNat : Int)) (oi := { dst := some 37, op := Op.load 5 (Operand.tmp 36), type := 5, pos := "ref.go:57", after := #[{ on := 7, ground := Ground.data }], guard := none }) (oL := { dst := some 10, op := Op.assign (Operand.tmp 40), type := 34, pos := "ref.go:57", after := #[{ on := 11, ground := Ground.data }, { on := 11, ground := Ground.chain }, { on := 0, ground := Ground.phase }, { on := 1, ground := Ground.phase }, { on := 2, ground := Ground.phase }, { on := 3, ground := Ground.phase }, { on := 4, ground := Ground.phase }, { on := 5, ground := Ground.phase }, { on := 6, ground := Ground.phase }, { on := 7, ground := Ground.phase }, { on := 8, ground := Ground.phase }, { on := 9, ground := Ground.phase }, { on := 10, ground := Ground.phase }, { on := 11, ground := Ground.phase }], guard := none }) (clo_app _ _ _ _ _ _ _) rfl rfl rfl (by kernel_rfl) (by kernel_rfl) (by kernel_rfl) (by kernel_rfl) (by kernel_rfl) (fun _ _ _ h => h) (YG.val (by rfl) (fun u hu => by have hc := HC2.out u hu.1; go_simp)) ?_
        simp only [Act.put, List.setIfInBounds_toArray, List.set_cons_zero, List.set_cons_succ]
        refine wpX_take 9 (v := .int .u8 ((xb ^^^ yb).toNat : Int)) (oi := { dst := some 38, op := Op.binOp BinOp.xor 5 (Operand.tmp 33) (Operand.tmp 37) 5, type := 5, pos := "ref.go:57", after := #[{ on := 4, ground := Ground.data }, { on := 8, ground := Ground.data }], guard := none }) (oL := { dst := some 10, op := Op.assign (Operand.tmp 40), type := 34, pos := "ref.go:57", after := #[{ on := 11, ground := Ground.data }, { on := 11, ground := Ground.chain }, { on := 0, ground := Ground.phase }, { on := 1, ground := Ground.phase }, { on := 2, ground := Ground.phase }, { on := 3, ground := Ground.phase }, { on := 4, ground := Ground.phase }, { on := 5, ground := Ground.phase }, { on := 6, ground := Ground.phase }, { on := 7, ground := Ground.phase }, { on := 8, ground := Ground.phase }, { on := 9, ground := Ground.phase }, { on := 10, ground := Ground.phase }, { on := 11, ground := Ground.phase }], guard := none }) (clo_app _ _ _ _ _ _ _) rfl rfl rfl (by kernel_rfl) (by kernel_rfl) (by kernel_rfl) (by kernel_rfl) (by kernel_rfl) (fun _ _ _ h => h) (YG.val (by rfl) (fun _ _ => by have hxo := HXO.out; go_simp)) ?_
        simp only [Act.put, List.setIfInBounds_toArray, List.set_cons_zero, List.set_cons_succ]
        refine wpX_step 10 (o := { dst := some 39, op := Op.buildSlice 34 1 #[(0, Operand.tmp 38)], type := 34, pos := "ref.go:57", after := #[{ on := 9, ground := Ground.data }], guard := none }) rfl rfl (by kernel_rfl) (by rfl) (fun u2 hS2 K hK => ?_)
        have HK := Lib.hid hK
        have HS2 := Lib.hid hS2
        clear hK hS2
        have ha2 := World.grownBy_alloc u2 (.cells #[.int .u8 ((xb ^^^ yb).toNat : Int)] 5) none
        refine wp_val_op (v := .slice (some ⟨u2.heap.size, 0, none⟩) 1 1) (w1 := u2.alloc (.cells #[.int .u8 ((xb ^^^ yb).toNat : Int)] 5)) (by go_simp) ?_
        have hrw2 : Row (u2.alloc (.cells #[.int .u8 ((xb ^^^ yb).toNat : Int)] 5)) u2.heap.size 5 #[.int .u8 ((xb ^^^ yb).toNat : Int)] := heap_alloc_new u2 _
        refine HK.out (fun u => AppS wr w.heap.size 5 ao i co ((X.take i).map bval) u ∧ Row u u2.heap.size 5 #[.int .u8 ((xb ^^^ yb).toNat : Int)]) _ _ ⟨clo_app _ _ _ _ _ _ _ _ _ HS2.out ha2, hrw2⟩ (fun u h => h.1) (clo_and (clo_app _ _ _ _ _ _ _) (clo_row _ _ _)) ?_
        simp only [Act.put, List.setIfInBounds_toArray, List.set_cons_zero, List.set_cons_succ]
        clear ha2 hrw2
        have hu26 : wr.heap.size ≤ u2.heap.size := HS2.out.1.size
        refine wpX_step 11 (o := { dst := some 40, op := Op.call { callee := Callee.builtin Builtin.append, args := #[Operand.tmp 29, Operand.tmp 39], argTypes := #[34, 34] }, type := 34, pos := "ref.go:57", after := #[{ on := 0, ground := Ground.data }, { on := 10, ground := Ground.data }], guard := none }) rfl rfl (by kernel_rfl) (by rfl) (fun u3 hS3 K3 hK3 => ?_)
        have HK3 := Lib.hid hK3
        have HS3 := Lib.hid hS3
        clear hK3 hS3
        have hnews : ∀ j u, ([.int .u8 ((xb ^^^ yb).toNat : Int)] : List Value)[j]? = some u → u3.cell? ((⟨u2.heap.size, 0, none⟩ : Addr).add j) = some u := by
          intro j u hu
          have h2 : ((⟨u2.heap.size, 0, none⟩ : Addr).add j) = ⟨u2.heap.size, j, none⟩ := by unfold Addr.add; split <;> simp_all
          rw [h2, Row.cell HS3.out.2]
          simpa using hu
        have hzb : w.heap.size ≤ u3.heap.size := by
          have h1 := HS3.out.1.1.size
          have h2 := HWS.out
          omega
        have hFn : ¬ In ao co u2.heap.size := fun h => by
          have := (Own.inn HO.out h).2
          omega
        obtain ⟨gF, cF, w8, hrun, hown8, hgr8⟩ := run_app (P := Try.prog) (ty := 34) u3 elB HS3.out.1.2 ⟨u2.heap.size, 0, none⟩ 1 1 [.int .u8 ((xb ^^^ yb).toNat : Int)] rfl hnews (by simp [Value.oneCell']) (by unfold maxLen; omega) (by omega) hzb (fun _ _ _ => trivial) (by omega)
        refine wp_val_op (v := .slice (some ⟨gF, 0, none⟩) (i + 1) cF) (w1 := w8) (run_app_op u3 w8 _ (.tmp 29) (.tmp 39) rfl _ hrun) ?_
        refine HK3.out (fun u => (AppS wr w.heap.size 5 ao i co ((X.take i).map bval) u ∧ Row u u2.heap.size 5 #[.int .u8 ((xb ^^^ yb).toNat : Int)]) ∧ w8.grownBy u none) _ _ ⟨⟨⟨HS3.out.1.1.trans hgr8.ch (fun _ _ h => h), own_behind HS3.out.1.2 hown8 hgr8⟩, Row.ch HS3.out.2 hgr8.ch hFn⟩, World.grownBy.refl _ _⟩ (fun u h => h.1) (clo_and (clo_and (clo_app _ _ _ _ _ _ _) (clo_row _ _ _)) (clo_grown _)) ?_
        simp only [Act.put, List.setIfInBounds_toArray, List.set_cons_zero, List.set_cons_succ]
        refine wpX_last (oL := { dst := some 10, op := Op.assign (Operand.tmp 40), type := 34, pos := "ref.go:57", after := #[{ on := 11, ground := Ground.data }, { on := 11, ground := Ground.chain }, { on := 0, ground := Ground.phase }, { on := 1, ground := Ground.phase }, { on := 2, ground := Ground.phase }, { on := 3, ground := Ground.phase }, { on := 4, ground := Ground.phase }, { on := 5, ground := Ground.phase }, { on := 6, ground := Ground.phase }, { on := 7, ground := Ground.phase }, { on := 8, ground := Ground.phase }, { on := 9, ground := Ground.phase }, { on := 10, ground := Ground.phase }, { on := 11, ground := Ground.phase }], guard := none }) rfl (by kernel_rfl) (by kernel_rfl) (by rfl) (fun u4 hS4 K4 hK4 => ?_)
        refine wp_val_op (v := .slice (some ⟨gF, 0, none⟩) (i + 1) cF) (w1 := u4) (by go_simp) (hK4 _ _ ?_)
        simp only [Act.put, List.setIfInBounds_toArray, List.set_cons_zero, List.set_cons_succ]
        have hown9 : BOwn u4 w.heap.size (some ⟨gF, 0, none⟩) (i + 1) cF (X.take (i + 1)) := by
          have h4 : Own u4 w.heap.size 5 1 (some ⟨gF, 0, none⟩) (i + 1) cF ((X.take i).map bval ++ [.int .u8 ((xb ^^^ yb).toNat : Int)]) := Own.ch hown8 (Ch.ofNone hS4.2 (fun _ => False)) (fun _ _ _ h => h)
          rw [HTK.out] at h4
          exact h4
        have hg9 : w.grownBy u4 none := Ch.fresh HG.out hS4.1.1.1 (fun g hg h => by have := (Own.inn HO.out h).1; omega)
        have HOWN9 := Lib.hid hown9
        have HG9 := Lib.hid hg9
        clear hown9 hg9 hS4 hgr8 hown8 hrun hFn hnews hu26 hzb HK3 HK HS2 HS3 HC1 HC2 HXO HTK HO HG hK4
        go_wp2_with fail
        go_roundw
        case rel => exact ⟨i + 1, _, _, by omega, by go_num, rfl, HOWN9.out, HG9.out⟩
        case measure => simp [intOf]; omega
      · obtain rfl : i = n := by omega
        have htk : X.take i = X := List.take_of_length_le (by rw [HXN.out]; exact Nat.le_refl _)
        rw [htk] at HO
        go_wp2_with fail
        refine bodyPost_ret (results_tmp2 rfl _ _ _) rfl ?_
        exact ⟨_, _, _, rfl, BOwn.mono HO.out HZ.out, grownBy_trans HG2.out HG.out⟩
  · have hd : decide (E = 0) = false := decide_eq_false he
    have hd2 : (E != 0) = true := by simpa using he
    have hap : apL key x l = [] := by rw [apL, HL1.out, ← HE.out, if_neg he]
    have HAQ := Lib.hid (HAP.out.trans hap)
    clear hap
    go_wp2_with (first
      | (refine wpList_load_row rfl 27 _ rfl w0.heap.size rfl 27 (cellsB key) (0, 0) _ HR1.out Try.underlying27 rfl (by rw [cellsB_size, hkl]; kernel_rfl) ?_)
      | (go_at_call 22; refine (HST.out _).mono ?_; rintro e w ⟨ab, n2, cb, rfl, ho2, hg2⟩; have HG2 := Lib.hid (grownBy_trans HG1.out hg2); clear ho2 hg2))
    refine bodyPost_ret (results_tmp2 rfl _ _ _) rfl ?_
    exact ⟨_, _, _, rfl, by rw [HAQ.out]; exact Own.nil _ _ _ _ _, HG2.out⟩

end Go.Proofs.Ytblgdfamomlklaa
/- awake; what Apply answers, in plain Lean. -/
namespace Go.Proofs.Ytblgdfamomlklaa
open Go.RowKit

theorem drewg {w w' : World} {q : Nat} (h : w' = w.drewN q) : w.grownBy w' none := by rw [h]; exact grownBy_drewN _ _ _
def knownL : List UInt8 := [0x2b, 0x7e, 0x15, 0x16, 0x28, 0xae, 0xd2, 0xa6, 0xab, 0xf7, 0x15, 0x88, 0x09, 0xcf, 0x4f, 0x3c]
theorem key_info : ∃ i, Try.prog.info? 27 = some i ∧ i.zero = some (.agg (cellsB z16)) ∧ i.size = 16 := ⟨(Try.prog.info? 27).getD default, by kernel_rfl, by kernel_rfl, by kernel_rfl⟩
theorem awake_math : kst (ksB knownL) 5 3 = [0xb8, 0x99, 0xb3] := by decide +kernel

set_option maxRecDepth 100000 in
set_option maxHeartbeats 1000000 in
theorem known_n (w : World) : Calls Try.prog 33 #[] w fun e w' => e = .returned (aggB knownL) ∧ w.grownBy w' none := by
  obtain ⟨ib, hib, hibz, hibs⟩ := key_info
  have hl : knownL.length = 16 := rfl
  go_enter Try.func33, Try.ntmps33
  go_upto_region 1 with (refine wpList_made rfl rfl hib hibz ?_; intro W1 hs1 hg1 hr1; have HG1 := Lib.hid hg1; have HR1 := Lib.hid (show Row W1 w.heap.size 27 (cellsB z16) from hr1); clear hs1 hg1 hr1)
  go_wp2_with (refine wpList_putrow rfl rfl w.heap.size rfl (cellsB knownL) rfl HR1.out (by kernel_rfl) (by rfl) (cellsB_one _) ?_; intro W2 hg2 hr2; have HG2 := Lib.hid (grownBy_old HG1.out hg2 (Nat.le_refl _)); have HR2 := Lib.hid hr2; clear hg2 hr2)
  exact bodyPost_ret (v := .agg (cellsB knownL)) (results_cell_row rfl _ _ w.heap.size 27 (cellsB knownL) (0, 0) _ rfl HR2.out Try.underlying27 rfl (by kernel_rfl)) rfl ⟨rfl, HG2.out⟩
set_option maxRecDepth 100000 in
set_option maxHeartbeats 1000000 in
theorem awake_n (w : World) : Calls Try.prog 26 #[] w fun e w' => e = .returned (.bool true) ∧ w.grownBy w' none := by
  have hst : ∀ u, Calls Try.prog 18 #[aggB knownL, .int .i64 5, .int .i64 3] u fun e w' => ∃ g, e = .returned (.tuple #[.slice (some ⟨g, 0, none⟩) 3 3, .int .i64 0]) ∧ BOwn w' u.heap.size (some ⟨g, 0, none⟩) 3 3 [0xb8, 0x99, 0xb3] ∧ u.grownBy w' none :=
    fun u => stream_ok knownL rfl 5 3 (by decide) (by decide) (by decide) (by decide) _ awake_math.symm u
  have hkn := fun u => known_n u
  generalize knownL = key at hst hkn
  have HST := Lib.hid hst
  have HKN := Lib.hid hkn
  clear hst hkn
  go_enter Try.func26, Try.ntmps26
  go_wp2_with (first
    | (go_at_call 33; refine (HKN.out _).mono ?_; rintro e W1 ⟨rfl, hg1⟩; have HG1 := Lib.hid hg1; clear hg1)
    | (go_at_call 18; refine (HST.out _).mono ?_; rintro e W2 ⟨g, rfl, ho2, hg2⟩; have HO2 := Lib.hid ho2; have HG2 := Lib.hid (grownBy_trans HG1.out hg2); clear ho2 hg2))
  have hl : BLies (W2.alloc (.cells (rowB [184, 153, 179]) 5)) (some ⟨W2.heap.size, 0, none⟩) [184, 153, 179] := BRow.lies (t := 5) (heap_alloc_new W2 _)
  refine (same_yes _ _ _ _ _ _ [184, 153, 179] _ ((BOwn.lies HO2.out).grown (World.grownBy_alloc W2 _ none)) hl rfl rfl (by decide)).mono ?_
  rintro e W3 ⟨rfl, q, hq⟩
  have HG3 := Lib.hid (grownBy_trans HG2.out (grownBy_trans (World.grownBy_alloc W2 _ none) (drewg hq)))
  clear hq hl
  go_wp2_with fail
  go_ret
  exact ⟨rfl, HG3.out⟩
theorem xob_xob {a b : List UInt8} (h : a.length = b.length) : xobL (xobL a b) b = a := by
  apply List.ext_getElem
  · rw [xobL_len (by rw [xobL_len h, h]), xobL_len h]
  · intro i h1 h2
    simp only [xobL, List.getElem_zipWith]
    rw [UInt8.xor_assoc, UInt8.xor_self, UInt8.xor_zero]
theorem xob_zero (b : List UInt8) : xobL (List.replicate b.length 0) b = b := by
  apply List.ext_getElem
  · rw [xobL_len (by simp)]; simp
  · intro i h1 h2
    simp [xobL]
/-- what a stretch is where it is there -/
theorem apL_ok {key : List UInt8} {x : Int} {l : List UInt8} (h : stE x l.length = 0) : apL key x l = xobL l (kst (ksB key) x.toNat l.length) := if_pos h
theorem apL_bad {key : List UInt8} {x : Int} {l : List UInt8} (h : stE x l.length ≠ 0) : apL key x l = [] := if_neg h
theorem apL_len {key : List UInt8} {x : Int} {l : List UInt8} (h : stE x l.length = 0) : (apL key x l).length = l.length := by
  rw [apL_ok h, xobL_len (by rw [kst_len])]
theorem apL_back {key : List UInt8} {x : Int} {l : List UInt8} (h : stE x l.length = 0) : apL key x (apL key x l) = l := by
  have hl := apL_len (key := key) h
  have h2 : stE x (apL key x l).length = 0 := by rw [hl]; exact h
  rw [apL_ok h2, hl, apL_ok h, xob_xob (by rw [kst_len])]
theorem apL_zero {key : List UInt8} {x : Int} {n : Nat} (h : stE x n = 0) : apL key x (List.replicate n 0) = stL key x n := by
  have h2 : stE x ((List.replicate n (0 : UInt8)).length : Nat) = 0 := by rw [List.length_replicate]; exact h
  rw [apL_ok h2, List.length_replicate, stL, if_pos h]
  have := xob_zero (kst (ksB key) x.toNat n)
  rw [kst_len] at this
  exact this
theorem stL_len {key : List UInt8} {x : Int} {n : Nat} (h : stE x n = 0) : (stL key x n).length = n := by rw [stL, if_pos h, kst_len]; rfl

end Go.Proofs.Ytblgdfamomlklaa
/- The law CtrTurned. -/
namespace Go.Proofs.Ytblgdfamomlklaa
open Go.RowKit

theorem xob_turn (a b : List UInt8) (h : a.length = b.length) (k : Nat) (y : UInt8) (hk : k < a.length) : (xobL (a.set k (a.getD k 0 ^^^ y)) b).set k ((xobL (a.set k (a.getD k 0 ^^^ y)) b).getD k 0 ^^^ y) = xobL a b := by
  have hb : k < b.length := by omega
  have ea : a.getD k 0 = a[k] := by rw [List.getD_eq_getElem?_getD, List.getElem?_eq_getElem hk]; rfl
  have e1 : (xobL (a.set k (a.getD k 0 ^^^ y)) b)[k]? = some ((a[k] ^^^ y) ^^^ b[k]) := by
    rw [xobL, List.getElem?_zipWith, List.getElem?_set_self (by simpa using hk), List.getElem?_eq_getElem hb, ea]
  have e2 : (xobL (a.set k (a.getD k 0 ^^^ y)) b).getD k 0 = (a[k] ^^^ y) ^^^ b[k] := by rw [List.getD_eq_getElem?_getD, e1]; rfl
  rw [e2]
  apply List.ext_getElem?
  intro i
  by_cases e : k = i
  · subst e
    rw [List.getElem?_set_self (by rw [xobL_len (by simpa using h)]; simpa using hk), xobL, List.getElem?_zipWith, List.getElem?_eq_getElem hb, List.getElem?_eq_getElem hk]
    refine congrArg some ?_
    rw [UInt8.xor_assoc, UInt8.xor_assoc, UInt8.xor_comm b[k] y, ← UInt8.xor_assoc y y, UInt8.xor_self, UInt8.zero_xor]
  · rw [List.getElem?_set_ne e, xobL, xobL, List.getElem?_zipWith, List.getElem?_zipWith, List.getElem?_set_ne e]

set_option maxRecDepth 100000 in
set_option maxHeartbeats 4000000 in
theorem turned_walk (key : List UInt8) (hkl : key.length = 16) (x : Int) (a : Option Addr) (n c : Nat) (l : List UInt8) (wh : Int) (y : UInt8) (w : World) (ha : BLies w a l) (hl : l.length = n) :
    Calls Try.prog 7 #[aggB key, .int .i64 x, .slice a n c, .int .i64 wh, .int .u8 (y.toNat : Int)] w fun e w' => e = .returned (.bool true) ∧ w.grownBy w' none := by
  have HA := Lib.hid ha
  have HL := Lib.hid hl
  clear ha hl
  unfold aggB
  go_enter Try.func7, Try.ntmps7
  go_upto_region 1 with (refine wpList_boxed rfl rfl (cellsB key) rfl ?_; intro w1 hs1 hg1 hr1; have HG := Lib.hid hg1; have HK := Lib.hid hr1; clear hs1 hg1 hr1)
  go_wp2_with fail
  refine (awake_n _).mono ?_
  rintro e w2 ⟨rfl, g⟩
  replace HG := Lib.hid (grownBy_trans HG.out g)
  replace HK := Lib.hid (HK.out.grown g)
  clear g
  rcases Nat.eq_zero_or_pos n with h0 | h0
  · subst h0
    go_wp2_with fail
    go_ret
    exact ⟨rfl, HG.out⟩
  have hz1 : decide ((n : Int) = 0) = false := decide_eq_false (by omega)
  have hz2 : ((n : Int) == 0) = false := by simp; omega
  have hz3 : decide (n = 0) = false := decide_eq_false (by omega)
  by_cases hbig : 3000 < n
  · have hd1 : decide ((3000 : Int) < (n : Int)) = true := decide_eq_true (by omega)
    have hd2 : decide (3000 < n) = true := decide_eq_true hbig
    go_wp2_with fail
    go_ret
    exact ⟨rfl, HG.out⟩
  have hd1 : decide ((3000 : Int) < (n : Int)) = false := decide_eq_false (by omega)
  have hd2 : decide (3000 < n) = false := decide_eq_false hbig
  obtain ⟨E, hE⟩ : ∃ E, E = stE x (n : Int) := ⟨_, rfl⟩
  have hap : ∀ u (a : Option Addr) (c : Nat) (l2 : List UInt8), l2.length = n → BLies u a l2 → Calls Try.prog 19 #[aggB key, .int .i64 x, .slice a n c] u fun e w' => ∃ a' n' c', e = .returned (.tuple #[.slice a' n' c', .int .i64 E]) ∧ BOwn w' u.heap.size a' n' c' (apL key x l2) ∧ u.grownBy w' none := fun u a c l2 hl2 h => by
    rw [hE]
    exact apply_n key hkl x a n c l2 hl2 (by omega) u h
  have HAP := Lib.hid hap
  have HE := Lib.hid hE
  clear hap hE
  unfold aggB at HAP
  go_upto_region 6 with (first
    | (refine wpList_load_row rfl 27 _ rfl w.heap.size rfl 27 (cellsB key) (0, 0) _ HK.out Try.underlying27 rfl (by rw [cellsB_size, hkl]; kernel_rfl) ?_)
    | (go_at_call 19; refine (HAP.out _ _ _ l HL.out (HA.out.grown HG.out)).mono ?_; rintro e w3 ⟨aP, nP, cP, rfl, ho, g⟩; have HP := Lib.hid ho; have HWW := Lib.hid HG.out.size; have HPB : Hid (w2.heap.size ≤ w3.heap.size) := Lib.hid g.size; have HPW : Hid (∀ q, In aP cP q → q < w3.heap.size) := Lib.hid (fun q hq => (Own.inn ho hq).2); have HKB := Lib.hid HK.out.lt; replace HG := Lib.hid (grownBy_trans HG.out g); replace HK := Lib.hid (HK.out.grown g); clear ho g))
  by_cases he : E = 0
  · subst he
    have hst : stE x l.length = 0 := by rw [HL.out]; exact HE.out.symm
    have hp : (apL key x l).length = n := by rw [apL_len hst, HL.out]
    have e1 : nP = n := by have := HP.out.len; omega
    subst e1
    have HST := Lib.hid hst
    have HPL := Lib.hid hp
    clear hst hp hd1 hd2 hz1 hz2 hz3
    go_wp2_with fail
    refine (pick_n wh (nP : Int) (by omega) (by omega) _).mono ?_
    rintro e w4 ⟨⟨k, rfl, hkk⟩, rfl⟩
    have hkn : k < nP := by omega
    clear hkk
    go_wp2_with fail
    refine (copyB_n a c nP l _ (HA.out.grown HG.out) HL.out (by omega)).mono ?_
    rintro e w5 ⟨aC, cC, rfl, ho, g⟩
    obtain ⟨gC, rfl, hC1, hC2⟩ := Own.block ho (by have := ho.cap.1; omega)
    have HC := Lib.hid ho
    replace HG := Lib.hid (grownBy_trans HG.out g)
    replace HK := Lib.hid (HK.out.grown g)
    replace HP := Lib.hid (HP.out.grown g)
    clear ho g
    have hlC : l.length = nP := HL.out

    have hklC : k < l.length := by omega
    obtain ⟨g', e1, _, _, hc, hf⟩ := Own.cell HC.out k (by rw [List.length_map]; exact hklC)
    obtain rfl : gC = g' := by simpa using e1
    obtain ⟨xb, hxb⟩ : ∃ xb, xb = l.getD k 0 := ⟨_, rfl⟩
    have hc' : w5.cell? ⟨gC, k, none⟩ = some (.int .u8 (xb.toNat : Int)) := by
      rw [hc, List.getElem_map, hxb, List.getD_eq_getElem?_getD, List.getElem?_eq_getElem hklC]
      rfl
    obtain ⟨zb, hzb⟩ : ∃ zb, zb = xb ^^^ y := ⟨_, rfl⟩
    have hxo : bits .xor .u8 (xb.toNat : Int) (y.toNat : Int) = (zb.toNat : Int) := hzb ▸ xor_u8' xb y
    have HZB := Lib.hid hzb
    clear hzb
    have hset := Own.set HC.out k (by rw [List.length_map]; exact hklC) (.int .u8 (zb.toNat : Int))
    have hset' : BOwn (w5.setCell ⟨gC, k, none⟩ (.int .u8 (zb.toNat : Int))) w3.heap.size (some ⟨gC, 0, none⟩) nP cC (l.set k zb) := by
      show Own _ _ _ _ _ _ _ _
      rw [List.map_set]
      exact hset
    have hgs := grownBy_setCell w5 gC k (.int .u8 (zb.toNat : Int))
    have HXC := Lib.hid hxb
    clear hc hset e1 hxb
    go_upto_region 11 with fail
    obtain ⟨w6, hww⟩ : ∃ w6, w6 = w5.setCell ⟨gC, k, none⟩ (.int .u8 (zb.toNat : Int)) := ⟨_, rfl⟩
    rw [← hww] at hset' hgs ⊢
    have HC2 := Lib.hid hset'
    have HGSC := Lib.hid hgs
    clear hww hset' hgs hc' hf hxo
    have hgw : w.grownBy w6 none := grownBy_old HG.out HGSC.out (Nat.le_trans HWW.out (Nat.le_trans HPB.out hC1))
    have hk6 : Row w6 w.heap.size 27 (cellsB key) := HK.out.grownNe HGSC.out (fun e => by have := HKB.out; have := HPB.out; omega)
    have hp6 := Own.grownNe HP.out HGSC.out (fun q hc hq hr => by
      injection hr with hr
      subst hr
      have := HPW.out _ ⟨hc, hq⟩
      omega)
    replace HG := Lib.hid hgw
    replace HK := Lib.hid hk6
    replace HP : Hid (BOwn w6 w2.heap.size aP nP cP (apL key x l)) := Lib.hid hp6
    clear hgw hk6 hp6
    have HG6 := Lib.hid HG.out.size
    have HPW6 : Hid (∀ q, In aP cP q → q < w6.heap.size) := Lib.hid (fun q hq => (Own.inn HP.out hq).2)
    have hl2 : (l.set k zb).length = nP := by rw [List.length_set]; exact hlC
    have hst2 : stE x (l.set k zb).length = 0 := by rw [hl2, ← hlC]; exact HST.out
    have hp2 : (apL key x (l.set k zb)).length = nP := by rw [apL_len hst2, hl2]
    have HL2 := Lib.hid hl2
    have HST2 := Lib.hid hst2
    have HPL2 := Lib.hid hp2
    clear hl2 hst2 hp2
    go_upto_region 12 with (first
      | (refine wpList_load_row rfl 27 _ rfl w.heap.size rfl 27 (cellsB key) (0, 0) _ HK.out Try.underlying27 rfl (by rw [cellsB_size, hkl]; kernel_rfl) ?_)
      | (go_at_call 19; refine (HAP.out _ _ _ (l.set k zb) HL2.out (BOwn.lies HC2.out)).mono ?_; rintro e w7 ⟨aQ, nQ, cQ, rfl, ho, g⟩; have HQ := Lib.hid ho; replace HG := Lib.hid (grownBy_trans HG.out g); replace HP := Lib.hid (HP.out.grown g); clear ho g))
    have e1 : nP = nQ := by have := HQ.out.len; have := HPL2.out; omega
    have hb3 : nP ≤ 3000 := by omega
    subst e1
    clear hbig h0
    go_upto_region 14 with fail
    obtain ⟨gQ, rfl, hQ1, hQ2⟩ := Own.block HQ.out (by have := HQ.out.cap.1; omega)
    obtain ⟨QL, hQL⟩ : ∃ QL, QL = apL key x (l.set k zb) := ⟨_, rfl⟩
    rw [← hQL] at HQ HPL2
    have HQL := Lib.hid hQL
    have hkq : k < QL.length := by rw [HPL2.out]; exact hkn
    obtain ⟨g', e1, _, _, hc, hf⟩ := Own.cell HQ.out k (by rw [List.length_map]; exact hkq)
    obtain rfl : gQ = g' := by simpa using e1
    obtain ⟨qb, hqb⟩ : ∃ qb, qb = QL.getD k 0 := ⟨_, rfl⟩
    have hc' : w7.cell? ⟨gQ, k, none⟩ = some (.int .u8 (qb.toNat : Int)) := by
      rw [hc, List.getElem_map, hqb, List.getD_eq_getElem?_getD, List.getElem?_eq_getElem hkq]
      rfl
    obtain ⟨vb, hvb⟩ : ∃ vb, vb = qb ^^^ y := ⟨_, rfl⟩
    have hxo : bits .xor .u8 (qb.toNat : Int) (y.toNat : Int) = (vb.toNat : Int) := hvb ▸ xor_u8' qb y
    have hset := Own.set HQ.out k (by rw [List.length_map]; exact hkq) (.int .u8 (vb.toNat : Int))
    have hset' : BOwn (w7.setCell ⟨gQ, k, none⟩ (.int .u8 (vb.toNat : Int))) w6.heap.size (some ⟨gQ, 0, none⟩) nP cQ (QL.set k vb) := by
      show Own _ _ _ _ _ _ _ _
      rw [List.map_set]
      exact hset
    have hgs := grownBy_setCell w7 gQ k (.int .u8 (vb.toNat : Int))
    have HQB := Lib.hid hqb
    have HVB := Lib.hid hvb
    clear hc hset e1 hqb hvb hQL
    go_upto_region 15 with fail
    obtain ⟨w8, hww⟩ : ∃ w8, w8 = w7.setCell ⟨gQ, k, none⟩ (.int .u8 (vb.toNat : Int)) := ⟨_, rfl⟩
    rw [← hww] at hset' hgs ⊢
    have hgw : w.grownBy w8 none := grownBy_old HG.out hgs (Nat.le_trans HG6.out hQ1)
    have hp8 := Own.grownNe HP.out hgs (fun q hc hq hr => by
      injection hr with hr
      subst hr
      have := HPW6.out _ ⟨hc, hq⟩
      omega)
    have hfin : QL.set k vb = apL key x l := by
      have e1 : stE x ((l.set k zb).length : Nat) = 0 := HST2.out
      have hl3 : (l.set k zb).length = l.length := List.length_set
      rw [HVB.out, HQB.out, HQL.out, apL_ok e1, apL_ok HST.out, hl3, HZB.out, HXC.out]
      exact xob_turn l _ (by rw [kst_len]) k y (by omega)
    rw [hfin] at hset'
    replace HG := Lib.hid hgw
    replace HP : Hid (BOwn w8 w2.heap.size aP nP cP (apL key x l)) := Lib.hid hp8
    have HQ8 := Lib.hid hset'
    clear hww hset' hgs hc' hf hxo hgw hp8 hfin
    go_wp2_with fail
    refine (same_yes _ _ _ _ _ _ (apL key x l) _ (BOwn.lies HP.out) (BOwn.lies HQ8.out) HP.out.len HQ8.out.len (by unfold maxLen; omega)).mono ?_
    rintro e w9 ⟨rfl, q, hq⟩
    have HG9 := Lib.hid (grownBy_trans HG.out (drewg hq))
    clear hq
    go_wp2_with fail
    go_ret
    exact ⟨rfl, HG9.out⟩
  · have hd : decide (E = 0) = false := decide_eq_false he
    have hd2 : (E != 0) = true := by simpa using he
    go_wp2_with fail
    go_ret
    exact ⟨rfl, HG.out⟩
end Go.Proofs.Ytblgdfamomlklaa
