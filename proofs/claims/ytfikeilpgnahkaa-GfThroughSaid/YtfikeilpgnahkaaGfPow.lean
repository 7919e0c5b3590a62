/- gf: powers, Exp, Log, Pow. -/
import Derived.Test.YtfikeilpgnahkaaGfInv
import Derived.Test.YtfikeilpgnahkaaGfExp
import Derived.Test.YtfikeilpgnahkaaArr
namespace Go.Proofs.Ytfikeilpgnahkaa
open Go.RowKit

theorem zero66 : Try.zeroCells66.size = 255 := by kernel_rfl
theorem size66 : (Try.prog.info? 66).map (·.size) = some 255 := by kernel_rfl

set_option maxRecDepth 100000 in
set_option maxHeartbeats 1000000 in
theorem powers_any (w : World) :
    Calls Try.prog 53 #[] w fun e w' => e = .returned (.agg powT) ∧ w.grownBy w' none := by
  go_enter Try.func53, Try.ntmps53
  go_wp2
  have h0 : ((w.alloc (.cells Try.zeroCells66 66)).alloc (.cells Try.zeroCells66 66)).heap[w.heap.size]? = some (.cells Try.zeroCells66 66 (0, 0)) := by
    rw [Below.heap_alloc _ _ _ (by simp)]; exact heap_alloc_new w _
  have h1 := own_array (w.alloc (.cells Try.zeroCells66 66)) 66 Try.zeroCells66 255 zero66 (by decide)
  rw [World.size_alloc] at h1
  have G0 : w.grownBy ((w.alloc (.cells Try.zeroCells66 66)).alloc (.cells Try.zeroCells66 66)) none := grownBy_al (World.grownBy_alloc _ _ _) _
  have H0 := Lib.hid h0
  have H1 := Lib.hid h1
  have HG := Lib.hid G0
  clear h0 h1 G0
  go_loopw [2, 4] (fun vx vi wr => ∃ (k : Nat) (xs : List Value), k ≤ 255 ∧ vi = .int .i64 k ∧ vx = .int .u8 ((gexp k).toNat : Int) ∧ Own wr (w.heap.size + 1) 66 1 (some ⟨w.heap.size + 1, 0, none⟩) 255 255 xs ∧ xs.take k = powL k ∧ wr.heap[w.heap.size]? = some (.cells Try.zeroCells66 66 (0, 0)) ∧ w.grownBy wr none) (fun _ vi _ => 255 - (intOf vi).toNat)
  case atStart => exact ⟨0, _, by omega, rfl, rfl, H1.out, by simp [powL], H0.out, HG.out⟩
  case round =>
    obtain ⟨k, xs, hk, rfl, rfl, ho, ht, hz, hg⟩ := hrel
    have HO := Lib.hid ho
    have HT := Lib.hid ht
    have HZ := Lib.hid hz
    have HGR := Lib.hid hg
    have hxl : xs.length = 255 := by have := ho.1; omega
    have HX := Lib.hid hxl
    clear ho ht hz hg hxl
    by_cases hlt : k < 255
    · obtain ⟨g', e1, _, hsz, hc, hf⟩ := Own.cell HO.out k (by rw [HX.out]; exact hlt)
      obtain rfl : w.heap.size + 1 = g' := by simpa using e1
      clear e1
      obtain ⟨u0, hu0⟩ : ∃ u0, wr.cell? ⟨w.heap.size + 1, k, none⟩ = some u0 := ⟨_, hc⟩
      clear hc
      have hset := Own.set HO.out k (by rw [HX.out]; exact hlt) (.int .u8 ((gexp k).toNat : Int))
      have HSET := Lib.hid hset
      clear hset
      go_wp2_with (go_at_call 19; refine (mul_i _ _ (gexp k) 2 _ rfl rfl).mono ?_; rintro e w' ⟨rfl, rfl⟩)
      go_roundw
      case rel =>
        refine ⟨k + 1, _, by omega, by go_num, rfl, HSET.out, ?_, ?_, ?_⟩
        · rw [List.take_succ_eq_append_getElem (by simp [HX.out]; omega), List.take_set_of_le (Nat.le_refl _), HT.out, powL_succ]
          simp [bval]
        · rw [Below.heap_setCell _ _ _ _ (by simp)]; exact HZ.out
        · exact grownBy_old HGR.out (grownBy_setCell _ _ _ _) (by omega)
      case measure => simp [intOf]; omega
    · obtain rfl : k = 255 := by omega
      have hw : wr.heap[w.heap.size + 1]? = some (.cells powT 66 (0, 0)) := by
        have h1 := HO.out.whole (by omega)
        have h2 := HT.out
        rw [List.take_of_length_le (by rw [HX.out]; exact Nat.le_refl _)] at h2
        rw [h2] at h1
        exact h1
      go_wp2_with (first | (refine wpList_load_row rfl 66 _ rfl (w.heap.size + 1) rfl 66 powT (0, 0) _ hw Try.underlying66 rfl (by rw [size66, powT_size]) ?_) | (refine wpList_store_row rfl 66 _ _ rfl w.heap.size powT rfl rfl 66 _ HZ.out (by rw [size66, powT_size]) (by rw [zero66, powT_size]) powT_one ?_))
      refine bodyPost_ret (v := .agg powT) (results_cell_row rfl _ _ w.heap.size 66 powT (0, 0) _ rfl (setRow_heap _ _ _ _ _ _ HZ.out) Try.underlying66 rfl (by rw [size66, powT_size])) rfl ⟨rfl, ?_⟩
      exact grownBy_old HGR.out (grownBy_setRow _ _ _) (Nat.le_refl _)

/-- the exponent as the table has it -/
def expI (n : Int) : Nat := (n % 255).toNat
theorem expI_lt (n : Int) : expI n < 255 := by unfold expI; omega
theorem tmod255 (n : Int) : n.tmod 255 = n % 255 ∨ n.tmod 255 = n % 255 - 255 := by
  rw [Int.tmod_eq_emod]
  split
  · left; omega
  · right; simp
theorem size5 : (Try.prog.info? 5).map (·.size) = some 1 := by kernel_rfl
theorem index_pow (i : Nat) (hi : i < 255) (w : World) : (Instr.index 66 (.agg powT) (.int .i64 (i : Int))).run Try.prog w = .ok (.int .u8 ((gexp i).toNat : Int)) w :=
  run_index_arr Try.underlying66 Try.underlying5 size5 powT .i64 i _ hi (powT_get i hi) w

set_option maxRecDepth 100000 in
set_option maxHeartbeats 1000000 in
theorem exp_any (n : Int) (w : World) (hn : -9223372036854775808 ≤ n ∧ n ≤ 9223372036854775807) :
    Calls Try.prog 41 #[.int .i64 n] w fun e w' => e = .returned (.int .u8 ((gexp (expI n)).toNat : Int)) ∧ w.grownBy w' none := by
  obtain ⟨n1, n2⟩ := hn
  have hix := index_pow (expI n) (expI_lt n)
  have HIX := Lib.hid hix
  clear hix
  by_cases h0 : n.tmod 255 < 0
  · have e1 : n.tmod 255 + 255 = (expI n : Nat) := by have := tmod255 n; unfold expI; omega
    have e2 : wrap64 (n.tmod 255 + 255) = (expI n : Nat) := by rw [e1]; exact IntWalk.wrap64_in _ ⟨by omega, by have := expI_lt n; omega⟩
    have hx : ∀ w, (Instr.index 66 (.agg powT) (.int .i64 (wrap64 (n.tmod 255 + 255)))).run Try.prog w = .ok (.int .u8 ((gexp (expI n)).toNat : Int)) w := by rw [e2]; exact HIX.out
    clear e1 e2
    go_enter Try.func41, Try.ntmps41
    go_wp2_with (go_at_call 53; refine (powers_any _).mono ?_; rintro e w1 ⟨rfl, hg⟩)
    go_ret
    exact ⟨rfl, by assumption⟩
  · have e1 : n.tmod 255 = (expI n : Nat) := by have := tmod255 n; unfold expI; omega
    have hx : ∀ w, (Instr.index 66 (.agg powT) (.int .i64 (n.tmod 255))).run Try.prog w = .ok (.int .u8 ((gexp (expI n)).toNat : Int)) w := by rw [e1]; exact HIX.out
    clear e1
    go_enter Try.func41, Try.ntmps41
    go_wp2_with (go_at_call 53; refine (powers_any _).mono ?_; rintro e w1 ⟨rfl, hg⟩)
    go_ret
    exact ⟨rfl, by assumption⟩

set_option maxRecDepth 100000 in
set_option maxHeartbeats 1000000 in
theorem log_i (x : Int) (a : UInt8) (w : World) (hx : (a.toNat : Int) = x) :
    Calls Try.prog 37 #[.int .u8 x] w fun e w' => e = .returned (.tuple #[.int .i64 (glog a : Nat), .int .i64 (noughtE a : Nat)]) ∧ w.grownBy w' none := by
  subst hx
  go_enter Try.func37, Try.ntmps37
  go_wp2_with fail
  refine (powers_any _).mono ?_
  rintro e w1 ⟨rfl, hg⟩
  have HG := Lib.hid hg
  clear hg
  go_wp2_with fail
  go_loop [7] (fun vi => ∃ k : Nat, k ≤ 255 ∧ vi = .int .i64 k ∧ ∀ i, i < k → gexp i ≠ a) (fun vi => 255 - (intOf vi).toNat)
  case atStart => exact ⟨0, by omega, rfl, fun i hi => by omega⟩
  case round =>
    obtain ⟨k, hk, rfl, hn⟩ := hrel
    have HN := Lib.hid hn
    clear hn
    by_cases hlt : k < 255
    · have hix := index_pow k hlt
      by_cases he : gexp k = a
      · have hb : (((gexp k).toNat : Int) == (a.toNat : Int)) = true := by rw [u8_beq]; simp [he]
        have hne : a ≠ 0 := by rw [← he]; exact gexp_ne hlt
        have hlog : glog a = k := by rw [← he]; exact glog_gexp hlt
        have HE := Lib.hid hne
        have HL := Lib.hid hlog
        clear he hne hlog
        go_wp2_with fail
        go_ret2
        exact ⟨by rw [HL.out, noughtE_ne HE.out]; rfl, HG.out⟩
      · have hb : (((gexp k).toNat : Int) == (a.toNat : Int)) = false := by rw [u8_beq]; simp [he]
        have HE := Lib.hid he
        clear he
        go_wp2_with fail
        go_round
        case rel => exact ⟨k + 1, by omega, by go_num, fun i hi => by
          by_cases h : i = k
          · rw [h]; exact HE.out
          · exact HN.out i (by omega)⟩
        case measure => simp [intOf]; omega
    · obtain rfl : k = 255 := by omega
      have h0 : a = 0 := by
        by_cases h : a = 0
        · exact h
        · exact absurd (glog_spec h).2 (HN.out _ (glog_spec h).1)
      have H0 := Lib.hid h0
      clear h0
      go_wp2_with fail
      go_ret2
      exact ⟨by rw [H0.out, glog_zero]; rfl, HG.out⟩

set_option maxRecDepth 100000 in
set_option maxHeartbeats 1000000 in
theorem refExp_any (n : Int) (w : World) (hn : -9223372036854775808 ≤ n ∧ n ≤ 9223372036854775807) :
    Calls Try.prog 42 #[.int .i64 n] w fun e w' => e = .returned (.int .u8 ((gexp (expI n)).toNat : Int)) ∧ w = w' := by
  obtain ⟨n1, n2⟩ := hn
  rw [← gpow_two]
  obtain ⟨m, hm⟩ : ∃ m, expI n = m := ⟨_, rfl⟩
  have hml : m < 255 := by rw [← hm]; exact expI_lt n
  rw [hm]
  have HM := Lib.hid hm
  clear hm
  by_cases h0 : n.tmod 255 < 0
  · have e2 : wrap64 (n.tmod 255 + 255) = (m : Int) := by rw [show n.tmod 255 + 255 = (m : Int) from by have := tmod255 n; rw [← HM.out]; unfold expI; omega]; exact IntWalk.wrap64_in _ ⟨by omega, by omega⟩
    go_enter Try.func42, Try.ntmps42
    go_wp2_with fail
    try rw [e2]
    clear e2
    go_loop [3, 4] (fun vp vi => ∃ k : Nat, k ≤ m ∧ vi = .int .i64 k ∧ vp = .int .u8 ((gpow 2 k).toNat : Int)) (fun _ vi => m - (intOf vi).toNat)
    case atStart => exact ⟨0, by omega, rfl, rfl⟩
    case round =>
      obtain ⟨k, hk, rfl, rfl⟩ := hrel
      by_cases hlt : k < m
      · go_wp2_with (go_at_call 18; refine (refMul_i _ _ (gpow 2 k) 2 _ rfl rfl).mono ?_; rintro e w' ⟨rfl, rfl⟩)
        go_round
        case rel => exact ⟨k + 1, by omega, by go_num, rfl⟩
        case measure => simp [intOf]; omega
      · obtain rfl : k = m := by omega
        go_wp2_with fail
        go_ret
        exact ⟨rfl, rfl⟩
  · have e2 : n.tmod 255 = (m : Int) := by have := tmod255 n; rw [← HM.out]; unfold expI; omega
    have h1 : ¬ (m : Int) < 0 := by omega
    clear h0
    go_enter Try.func42, Try.ntmps42
    go_wp2_with fail
    try rw [e2]
    clear e2
    go_loop [3, 4] (fun vp vi => ∃ k : Nat, k ≤ m ∧ vi = .int .i64 k ∧ vp = .int .u8 ((gpow 2 k).toNat : Int)) (fun _ vi => m - (intOf vi).toNat)
    case atStart => exact ⟨0, by omega, rfl, rfl⟩
    case round =>
      obtain ⟨k, hk, rfl, rfl⟩ := hrel
      by_cases hlt : k < m
      · go_wp2_with (go_at_call 18; refine (refMul_i _ _ (gpow 2 k) 2 _ rfl rfl).mono ?_; rintro e w' ⟨rfl, rfl⟩)
        go_round
        case rel => exact ⟨k + 1, by omega, by go_num, rfl⟩
        case measure => simp [intOf]; omega
      · obtain rfl : k = m := by omega
        go_wp2_with fail
        go_ret
        exact ⟨rfl, rfl⟩

set_option maxRecDepth 100000 in
set_option maxHeartbeats 1000000 in
theorem refLog_i (x : Int) (a : UInt8) (w : World) (hx : (a.toNat : Int) = x) :
    Calls Try.prog 39 #[.int .u8 x] w fun e w' => e = .returned (.tuple #[.int .i64 (glog a : Nat), .int .i64 (noughtE a : Nat)]) ∧ w = w' := by
  subst hx
  by_cases h0 : a = 0
  · subst h0
    rw [glog_zero, noughtE_zero]
    show Calls Try.prog 39 #[.int .u8 0] w fun e w' => e = .returned (.tuple #[.int .i64 0, .int .i64 60]) ∧ w = w'
    go_enter Try.func39, Try.ntmps39
    go_wp2
    go_ret2
    exact ⟨rfl, rfl⟩
  · have hne : ((a.toNat : Int) == 0) = false := by have := u8_beq a 0; simp only [h0, decide_false] at this; exact this
    rw [noughtE_ne h0]
    have H0 := Lib.hid h0
    have hl255 := (glog_spec h0).1
    clear h0
    go_enter Try.func39, Try.ntmps39
    go_wp2_with fail
    go_loop [4, 5] (fun vp vn => ∃ k : Nat, k ≤ glog a ∧ vp = .int .u8 ((gexp k).toNat : Int) ∧ vn = .int .i64 k) (fun _ vn => glog a - (intOf vn).toNat)
    case atStart => exact ⟨0, by omega, rfl, rfl⟩
    case round =>
      obtain ⟨k, hk, rfl, rfl⟩ := hrel
      by_cases hlt : k < glog a
      · have hb : (((gexp k).toNat : Int) != (a.toNat : Int)) = true := by rw [u8_bne]; simp [glog_first H0.out hlt]
        go_wp2_with (go_at_call 18; refine (refMul_i _ _ (gexp k) 2 _ rfl rfl).mono ?_; rintro e w' ⟨rfl, rfl⟩)
        go_round
        case rel => exact ⟨k + 1, by omega, rfl, by go_num⟩
        case measure => simp [intOf]; omega
      · have hk' : k = glog a := by omega
        have hb : (((gexp k).toNat : Int) != (a.toNat : Int)) = false := by rw [u8_bne, hk']; simp [(glog_spec H0.out).2]
        have HK := Lib.hid hk'
        clear hk' hlt
        go_wp2_with fail
        go_ret2
        exact ⟨by rw [← HK.out]; rfl, rfl⟩

/-- an element to a power; its error -/
def powV (a : UInt8) (n : Int) : UInt8 := if n = 0 then 1 else if a = 0 then 0 else gpow a (expI n)
def powE (a : UInt8) (n : Int) : Nat := if n < 0 ∧ a = 0 then 60 else 0

set_option maxRecDepth 100000 in
set_option maxHeartbeats 1000000 in
theorem refPow_i (x : Int) (a : UInt8) (n : Int) (w : World) (hx : (a.toNat : Int) = x) (hn : -9223372036854775808 ≤ n ∧ n ≤ 9223372036854775807) :
    Calls Try.prog 40 #[.int .u8 x, .int .i64 n] w fun e w' => e = .returned (.tuple #[.int .u8 ((powV a n).toNat : Int), .int .i64 (powE a n : Nat)]) ∧ w = w' := by
  subst hx
  obtain ⟨n1, n2⟩ := hn
  unfold powV powE
  by_cases hn0 : n = 0
  · subst hn0
    rw [if_pos rfl, if_neg (by omega)]
    go_enter Try.func40, Try.ntmps40
    go_wp2_with fail
    go_ret2
    exact ⟨rfl, rfl⟩
  have hnb : (n == 0) = false := by simpa using hn0
  rw [if_neg hn0]
  by_cases ha0 : a = 0
  · subst ha0
    rw [if_pos rfl]
    by_cases hneg : n < 0
    · rw [if_pos ⟨hneg, rfl⟩]
      show Calls Try.prog 40 #[.int .u8 0, .int .i64 n] w fun e w' => e = .returned (.tuple #[.int .u8 0, .int .i64 60]) ∧ w = w'
      go_enter Try.func40, Try.ntmps40
      go_wp2_with fail
      go_ret2
      exact ⟨rfl, rfl⟩
    · rw [if_neg (by intro h; exact hneg h.1)]
      show Calls Try.prog 40 #[.int .u8 0, .int .i64 n] w fun e w' => e = .returned (.tuple #[.int .u8 0, .int .i64 0]) ∧ w = w'
      go_enter Try.func40, Try.ntmps40
      go_wp2_with fail
      go_ret2
      exact ⟨rfl, rfl⟩
  · rw [if_neg ha0, if_neg (by intro h; exact ha0 h.2)]
    have hab : ((a.toNat : Int) == 0) = false := by have := u8_beq a 0; simp only [ha0, decide_false] at this; exact this
    obtain ⟨m, hm⟩ : ∃ m, expI n = m := ⟨_, rfl⟩
    have hml : m < 255 := by rw [← hm]; exact expI_lt n
    rw [hm]
    have HM := Lib.hid hm
    clear hm ha0 hn0
    by_cases h0 : n.tmod 255 < 0
    · have e2 : wrap64 (n.tmod 255 + 255) = (m : Int) := by rw [show n.tmod 255 + 255 = (m : Int) from by have := tmod255 n; rw [← HM.out]; unfold expI; omega]; exact IntWalk.wrap64_in _ ⟨by omega, by omega⟩
      go_enter Try.func40, Try.ntmps40
      go_wp2_with fail
      try rw [e2]
      clear e2
      go_loop [6, 7] (fun vp vi => ∃ k : Nat, k ≤ m ∧ vi = .int .i64 k ∧ vp = .int .u8 ((gpow a k).toNat : Int)) (fun _ vi => m - (intOf vi).toNat)
      case atStart => exact ⟨0, by omega, rfl, rfl⟩
      case round =>
        obtain ⟨k, hk, rfl, rfl⟩ := hrel
        by_cases hlt : k < m
        · go_wp2_with (go_at_call 18; refine (refMul_i _ _ (gpow a k) a _ rfl rfl).mono ?_; rintro e w' ⟨rfl, rfl⟩)
          go_round
          case rel => exact ⟨k + 1, by omega, by go_num, rfl⟩
          case measure => simp [intOf]; omega
        · obtain rfl : k = m := by omega
          go_wp2_with fail
          go_ret2
          exact ⟨rfl, rfl⟩
    · have e2 : n.tmod 255 = (m : Int) := by have := tmod255 n; rw [← HM.out]; unfold expI; omega
      have h1 : ¬ (m : Int) < 0 := by omega
      clear h0
      go_enter Try.func40, Try.ntmps40
      go_wp2_with fail
      try rw [e2]
      clear e2
      go_loop [6, 7] (fun vp vi => ∃ k : Nat, k ≤ m ∧ vi = .int .i64 k ∧ vp = .int .u8 ((gpow a k).toNat : Int)) (fun _ vi => m - (intOf vi).toNat)
      case atStart => exact ⟨0, by omega, rfl, rfl⟩
      case round =>
        obtain ⟨k, hk, rfl, rfl⟩ := hrel
        by_cases hlt : k < m
        · go_wp2_with (go_at_call 18; refine (refMul_i _ _ (gpow a k) a _ rfl rfl).mono ?_; rintro e w' ⟨rfl, rfl⟩)
          go_round
          case rel => exact ⟨k + 1, by omega, by go_num, rfl⟩
          case measure => simp [intOf]; omega
        · obtain rfl : k = m := by omega
          go_wp2_with fail
          go_ret2
          exact ⟨rfl, rfl⟩

theorem expI_mul (l : Nat) (n : Int) : gexp (expI ((l : Int) * n.tmod 255)) = gexp (l * expI n) := by
  have h1 : expI ((l : Int) * n.tmod 255) = (l * expI n) % 255 := by
    have e : ((l : Int) * n.tmod 255) % 255 = ((l * expI n : Nat) : Int) % 255 := by
      have e2 : ((expI n : Nat) : Int) = n % 255 := by unfold expI; omega
      rw [Int.natCast_mul, e2]
      rcases tmod255 n with h | h
      · rw [h]
      · rw [h, Int.mul_sub, Int.sub_emod, Int.mul_emod_left, Int.sub_zero, Int.emod_emod_of_dvd _ (Int.dvd_refl _)]
    unfold expI
    unfold expI at e
    omega
  rw [h1, gexp_mod]

set_option maxRecDepth 100000 in
set_option maxHeartbeats 1000000 in
theorem pow_i (x : Int) (a : UInt8) (n : Int) (w : World) (hx : (a.toNat : Int) = x) (hn : -9223372036854775808 ≤ n ∧ n ≤ 9223372036854775807) :
    Calls Try.prog 38 #[.int .u8 x, .int .i64 n] w fun e w' => e = .returned (.tuple #[.int .u8 ((powV a n).toNat : Int), .int .i64 (powE a n : Nat)]) ∧ w.grownBy w' none := by
  subst hx
  obtain ⟨n1, n2⟩ := hn
  unfold powV powE
  by_cases hn0 : n = 0
  · subst hn0
    rw [if_pos rfl, if_neg (by omega)]
    go_enter Try.func38, Try.ntmps38
    go_wp2_with fail
    go_ret2
    exact ⟨rfl, World.grownBy.refl _ _⟩
  have hnb : (n == 0) = false := by simpa using hn0
  rw [if_neg hn0]
  by_cases ha0 : a = 0
  · subst ha0
    rw [if_pos rfl]
    by_cases hneg : n < 0
    · rw [if_pos ⟨hneg, rfl⟩]
      show Calls Try.prog 38 #[.int .u8 0, .int .i64 n] w fun e w' => e = .returned (.tuple #[.int .u8 0, .int .i64 60]) ∧ w.grownBy w' none
      go_enter Try.func38, Try.ntmps38
      go_wp2_with fail
      go_ret2
      exact ⟨rfl, World.grownBy.refl _ _⟩
    · rw [if_neg (by intro h; exact hneg h.1)]
      have hnn : decide (n < 0) = false := by simpa using hneg
      show Calls Try.prog 38 #[.int .u8 0, .int .i64 n] w fun e w' => e = .returned (.tuple #[.int .u8 0, .int .i64 0]) ∧ w.grownBy w' none
      go_enter Try.func38, Try.ntmps38
      go_wp2_with fail
      go_ret2
      exact ⟨rfl, World.grownBy.refl _ _⟩
  · rw [if_neg ha0, if_neg (by intro h; exact ha0 h.2)]
    have hab : ((a.toNat : Int) == 0) = false := by have := u8_beq a 0; simp only [ha0, decide_false] at this; exact this
    have hl := (glog_spec ha0).1
    have ht := tmod255 n
    have hlo : -255 ≤ n.tmod 255 := by omega
    have hhi : n.tmod 255 ≤ 255 := by omega
    have hm1 : -65025 ≤ (glog a : Int) * n.tmod 255 := by
      have := Int.mul_le_mul_of_nonneg_left hlo (by omega : (0 : Int) ≤ (glog a : Int))
      omega
    have hm2 : (glog a : Int) * n.tmod 255 ≤ 65025 := by
      have := Int.mul_le_mul_of_nonneg_left hhi (by omega : (0 : Int) ≤ (glog a : Int))
      omega
    have hexp : gexp (expI ((glog a : Int) * n.tmod 255)) = gpow a (expI n) := by
      rw [expI_mul, ← gpow_gexp, (glog_spec ha0).2]
    have HE := Lib.hid hexp
    have H0 := Lib.hid ha0
    clear hexp ha0 hn0 ht
    go_enter Try.func38, Try.ntmps38
    go_wp2_with fail
    refine (log_i _ a _ rfl).mono ?_
    rintro e w1 ⟨rfl, g1⟩
    go_wp2_with fail
    refine (exp_any _ _ ⟨by omega, by omega⟩).mono ?_
    rintro e w2 ⟨rfl, g2⟩
    go_wp2_with fail
    go_ret2
    exact ⟨by rw [← HE.out]; rfl, grownBy_trans g1 g2⟩

end Go.Proofs.Ytfikeilpgnahkaa
