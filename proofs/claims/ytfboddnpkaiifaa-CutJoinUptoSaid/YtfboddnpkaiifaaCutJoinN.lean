/- cut.Join of every list and size; the document's Join. -/
import Derived.Test.YtfboddnpkaiifaaCutJoin
import Derived.Test.YtfboddnpkaiifaaCutUp
namespace Go.Proofs.Ytfboddnpkaiifaa
open Go.RowKit

theorem quietU {P : Program} {f : FuncId} {args : Array Value} {w : World} {n : Nat} {v : Value} (h : Calls P f args (w.drewN n) fun e w' => e = .returned v ∧ ∃ q, w' = (w.drewN n).drewN q) : Calls P f args (w.drewN n) fun e w'' => e = .returned v ∧ ∃ m, w'' = w.drewN m :=
  h.mono fun _ _ ⟨he, q, hw⟩ => ⟨he, n + q, by rw [hw, World.drewN_drewN]⟩

set_option maxRecDepth 100000 in
set_option maxHeartbeats 2000000 in
theorem join_n (a : Option Addr) (c K : Nat) (z : Int) (L : List Sl) (bs : List (List UInt8)) (w : World) (hL : LLies w a L bs) (hK : bs.length = K) :
    Calls Try.prog 23 #[.slice a K c, .int .i64 z] w fun e w' => (∃ a' m c', e = .returned (.tuple #[.slice a' m c', .int .i64 (jnE bs z : Nat)]) ∧ BOwn w' w.heap.size a' m c' (jnR bs z)) ∧ w.grownBy w' none := by
  have hno : ¬ jnOk bs z → jnE bs z = 91 ∧ jnR bs z = [] := fun h => ⟨by unfold jnE; rw [if_neg h], by unfold jnR; rw [if_neg h]⟩
  by_cases h1 : K < 1
  · obtain ⟨hE, hR⟩ := hno (fun h => by have := h.1; omega)
    rw [hE, hR]
    obtain rfl : K = 0 := by omega
    clear hE hR hno hL hK h1
    go_enter Try.func23, Try.ntmps23
    go_wp2_with fail
    refine bodyPost_ret (by simp [*, results, Try.results23, go_sem]; try rfl) rfl ?_
    exact ⟨⟨none, 0, 0, rfl, Own.nil _ _ _ _ _⟩, World.grownBy.refl _ _⟩
  by_cases h2 : 255 < K
  · obtain ⟨hE, hR⟩ := hno (fun h => by have := h.2.1; omega)
    rw [hE, hR]
    have d1 : decide ((K : Int) < 1) = false := by simp; omega
    have d2 : decide ((255 : Int) < (K : Int)) = true := by simp; omega
    clear hE hR hno hL hK h1 h2
    go_enter Try.func23, Try.ntmps23
    go_wp2_with fail
    refine bodyPost_ret (by simp [*, results, Try.results23, go_sem]; try rfl) rfl ?_
    exact ⟨⟨none, 0, 0, rfl, Own.nil _ _ _ _ _⟩, World.grownBy.refl _ _⟩
  have d1 : decide ((K : Int) < 1) = false := by simp; omega
  have d2 : decide ((255 : Int) < (K : Int)) = false := by simp; omega
  by_cases h3 : z < 1
  · obtain ⟨hE, hR⟩ := hno (fun h => by have := h.2.2.1; omega)
    rw [hE, hR]
    have d3 : decide (z < 1) = true := by simp; omega
    clear hE hR hno hL hK h1 h2 h3
    go_enter Try.func23, Try.ntmps23
    go_wp2_with fail
    refine bodyPost_ret (by simp [*, results, Try.results23, go_sem]; try rfl) rfl ?_
    exact ⟨⟨none, 0, 0, rfl, Own.nil _ _ _ _ _⟩, World.grownBy.refl _ _⟩
  obtain ⟨z, rfl⟩ : ∃ n : Nat, z = (n : Int) := ⟨z.toNat, by omega⟩
  have d3 : decide ((z : Int) < 1) = false := by simp; omega
  have d3' : decide (z < 1) = false := by simp; omega
  have k1 : 1 ≤ K := by omega
  have k2 : K ≤ 255 := by omega
  by_cases h4 : K * upN 65536 K < z
  · obtain ⟨hE, hR⟩ := hno (fun h => by have h5 := h.2.2.2.1; rw [hK] at h5; omega)
    rw [hE, hR]
    obtain ⟨U, hU⟩ : ∃ U, U = upN 65536 K := ⟨_, rfl⟩
    have hUl : U ≤ 65536 := by rw [hU]; exact upN_small k1
    have hup : ∀ w, Calls Try.prog 51 #[.int .i64 65536, .int .i64 K] w fun e w' => e = .returned (.int .i64 (upN 65536 K : Nat)) ∧ w = w' := fun w => up_n 65536 K w (by omega) k1 (by omega)
    rw [← hU] at h4 hup
    have HU := Lib.hid hup
    obtain ⟨M, hM⟩ : ∃ M, M = K * U := ⟨_, rfl⟩
    have hM2 : M ≤ 255 * 65536 := by rw [hM]; exact Nat.mul_le_mul k2 hUl
    have wU : IntKind.i64.wrap ((K : Int) * (U : Int)) = (M : Int) := by rw [hM]; rw [show ((K : Int) * (U : Int)) = ((K * U : Nat) : Int) by simp]; rw [← hM]; exact i64_nat _ (by omega)
    rw [← hM] at h4
    have d4 : decide ((M : Int) < (z : Int)) = true := by simp; omega
    have d5 : decide (M < z) = true := by simp; omega
    clear hE hR hno hL hK hU hup hM h1 h2 h3
    go_enter Try.func23, Try.ntmps23
    go_wp2_with fail
    refine (HU.out _).mono ?_
    rintro e w' ⟨rfl, rfl⟩
    go_wp2_with fail
    refine bodyPost_ret (by simp [*, results, Try.results23, go_sem]; try rfl) rfl ?_
    exact ⟨⟨none, 0, 0, rfl, Own.nil _ _ _ _ _⟩, World.grownBy.refl _ _⟩
  · have B := bk_num k1 k2 (by omega : 1 ≤ z) (by omega)
    refine (join_ok a c K z (upN 65536 K) (upN z K) L bs w hL hK B rfl rfl).mono ?_
    rintro e w' ⟨h, hg⟩
    refine ⟨?_, hg⟩
    rcases h with ⟨hall, a', c', he, ho⟩ | ⟨hn, he⟩
    · have hok : jnOk bs (z : Int) := ⟨by omega, by omega, by omega, by rw [hK]; omega, by rw [hK, Int.toNat_natCast]; exact hall⟩
      have hE : jnE bs (z : Int) = 0 := by unfold jnE; rw [if_pos hok]
      have hR : jnR bs (z : Int) = bs.flatten.take z := by unfold jnR; rw [if_pos hok, Int.toNat_natCast]
      rw [hE, hR]
      exact ⟨a', z, c', he, ho⟩
    · obtain ⟨hE, hR⟩ := hno (fun h => hn (by have h5 := h.2.2.2.2; rw [hK, Int.toNat_natCast] at h5; exact h5))
      rw [hE, hR]
      exact ⟨none, 0, 0, he, Own.nil _ _ _ _ _⟩

set_option maxRecDepth 100000 in
set_option maxHeartbeats 2000000 in
theorem refJoin_n (a : Option Addr) (c K : Nat) (z : Int) (L : List Sl) (bs : List (List UInt8)) (w : World) (hL : LLies w a L bs) (hK : bs.length = K) :
    Calls Try.prog 26 #[.slice a K c, .int .i64 z] w fun e w' => (∃ a' m c', e = .returned (.tuple #[.slice a' m c', .int .i64 (jnE bs z : Nat)]) ∧ BLies w' a' (jnR bs z) ∧ (jnR bs z).length = m ∧ m ≤ 100000000) ∧ w.grownBy w' none := by
  have hno : ¬ jnOk bs z → jnE bs z = 91 ∧ jnR bs z = [] := fun h => ⟨by unfold jnE; rw [if_neg h], by unfold jnR; rw [if_neg h]⟩
  by_cases h1 : K < 1
  · obtain ⟨hE, hR⟩ := hno (fun h => by have := h.1; omega)
    rw [hE, hR]
    obtain rfl : K = 0 := by omega
    clear hE hR hno hL hK h1
    go_enter Try.func26, Try.ntmps26
    go_wp2_with fail
    refine bodyPost_ret (by simp [*, results, Try.results26, go_sem]; try rfl) rfl ?_
    exact ⟨⟨none, 0, 0, rfl, BLies.nil _ _, rfl, by omega⟩, World.grownBy.refl _ _⟩
  by_cases h2 : 255 < K
  · obtain ⟨hE, hR⟩ := hno (fun h => by have := h.2.1; omega)
    rw [hE, hR]
    have d1 : decide ((K : Int) < 1) = false := by simp; omega
    have d2 : decide ((255 : Int) < (K : Int)) = true := by simp; omega
    clear hE hR hno hL hK h1 h2
    go_enter Try.func26, Try.ntmps26
    go_wp2_with fail
    refine bodyPost_ret (by simp [*, results, Try.results26, go_sem]; try rfl) rfl ?_
    exact ⟨⟨none, 0, 0, rfl, BLies.nil _ _, rfl, by omega⟩, World.grownBy.refl _ _⟩
  have d1 : decide ((K : Int) < 1) = false := by simp; omega
  have d2 : decide ((255 : Int) < (K : Int)) = false := by simp; omega
  by_cases h3 : z < 1
  · obtain ⟨hE, hR⟩ := hno (fun h => by have := h.2.2.1; omega)
    rw [hE, hR]
    have d3 : decide (z < 1) = true := by simp; omega
    clear hE hR hno hL hK h1 h2 h3
    go_enter Try.func26, Try.ntmps26
    go_wp2_with fail
    refine bodyPost_ret (by simp [*, results, Try.results26, go_sem]; try rfl) rfl ?_
    exact ⟨⟨none, 0, 0, rfl, BLies.nil _ _, rfl, by omega⟩, World.grownBy.refl _ _⟩
  obtain ⟨z, rfl⟩ : ∃ n : Nat, z = (n : Int) := ⟨z.toNat, by omega⟩
  have d3 : decide ((z : Int) < 1) = false := by simp; omega
  have d3' : decide (z < 1) = false := by simp; omega
  have k1 : 1 ≤ K := by omega
  have k2 : K ≤ 255 := by omega
  by_cases h4 : K * upN 65536 K < z
  · obtain ⟨hE, hR⟩ := hno (fun h => by have h5 := h.2.2.2.1; rw [hK] at h5; omega)
    rw [hE, hR]
    obtain ⟨U, hU⟩ : ∃ U, U = upN 65536 K := ⟨_, rfl⟩
    have hUl : U ≤ 65536 := by rw [hU]; exact upN_small k1
    have hup : ∀ w, Calls Try.prog 54 #[.int .i64 65536, .int .i64 K] w fun e w' => e = .returned (.int .i64 (upN 65536 K : Nat)) ∧ ∃ q, w' = w.drewN q := fun w => refUp_n 65536 K w (by omega) k1 (by omega)
    rw [← hU] at h4 hup
    have HU := Lib.hid hup
    obtain ⟨M, hM⟩ : ∃ M, M = K * U := ⟨_, rfl⟩
    have hM2 : M ≤ 255 * 65536 := by rw [hM]; exact Nat.mul_le_mul k2 hUl
    have wU : IntKind.i64.wrap ((K : Int) * (U : Int)) = (M : Int) := by rw [hM]; rw [show ((K : Int) * (U : Int)) = ((K * U : Nat) : Int) by simp]; rw [← hM]; exact i64_nat _ (by omega)
    rw [← hM] at h4
    have d4 : decide ((M : Int) < (z : Int)) = true := by simp; omega
    have d5 : decide (M < z) = true := by simp; omega
    clear hE hR hno hL hK hU hup hM h1 h2 h3
    go_enter Try.func26, Try.ntmps26
    go_wp2_with fail
    refine (HU.out _).mono ?_
    rintro e w' ⟨rfl, q0, rfl⟩
    go_wp2_with fail
    refine bodyPost_ret (by simp [*, results, Try.results26, go_sem]; try rfl) rfl ?_
    exact ⟨⟨none, 0, 0, rfl, BLies.nil _ _, rfl, by omega⟩, grownBy_drewN _ _ _⟩
  · have B := bk_num k1 k2 (by omega : 1 ≤ z) (by omega)
    have hoks : (∀ b ∈ bs, b.length = upN z K) → jnE bs (z : Int) = 0 ∧ jnR bs (z : Int) = bs.flatten.take z := fun hall => by
      have hok : jnOk bs (z : Int) := ⟨by omega, by omega, by omega, by rw [hK]; omega, by rw [hK, Int.toNat_natCast]; exact hall⟩
      exact ⟨by unfold jnE; rw [if_pos hok], by unfold jnR; rw [if_pos hok, Int.toNat_natCast]⟩
    have hbad : (¬ ∀ b ∈ bs, b.length = upN z K) → jnE bs (z : Int) = 91 ∧ jnR bs (z : Int) = [] := fun hn => hno (fun h => hn (by have h5 := h.2.2.2.2; rw [hK, Int.toNat_natCast] at h5; exact h5))
    have hup1 : ∀ w, Calls Try.prog 54 #[.int .i64 65536, .int .i64 K] w fun e w' => e = .returned (.int .i64 (upN 65536 K : Nat)) ∧ ∃ q, w' = w.drewN q := fun w => refUp_n 65536 K w (by omega) k1 (by omega)
    have hup2 : ∀ w, Calls Try.prog 54 #[.int .i64 z, .int .i64 K] w fun e w' => e = .returned (.int .i64 (upN z K : Nat)) ∧ ∃ q, w' = w.drewN q := fun w => refUp_n z K w (by have := B.nU; have := B.kU; omega) k1 (by omega)
    have hfl : ∀ q, (∀ b ∈ bs, b.length = q) → bs.flatten.length = K * q := fun q h => by rw [flatten_len h, hK]
    obtain ⟨U, hU⟩ : ∃ U, U = upN 65536 K := ⟨_, rfl⟩
    obtain ⟨q, hq⟩ : ∃ q, q = upN z K := ⟨_, rfl⟩
    rw [← hU, ← hq] at B
    rw [← hU] at hup1
    rw [← hq] at hup2 hoks hbad
    obtain ⟨k1', k2', n1, nU, U1, kU, q1, qn, kq, kq2⟩ := B
    obtain ⟨M, hM⟩ : ∃ M, M = K * U := ⟨_, rfl⟩
    rw [← hM] at nU kU
    have wU : IntKind.i64.wrap ((K : Int) * (U : Int)) = (M : Int) := by rw [hM]; rw [show ((K : Int) * (U : Int)) = ((K * U : Nat) : Int) by simp]; rw [← hM]; exact i64_nat _ (by omega)
    obtain ⟨N, hN⟩ : ∃ N, N = K * q := ⟨_, rfl⟩
    rw [← hN] at kq kq2
    have HU1 := Lib.hid hup1
    have HU2 := Lib.hid hup2
    have HLL := Lib.hid hL
    have HK := Lib.hid hK
    have HN := Lib.hid hN
    have HKQ := Lib.hid kq
    have HOK := Lib.hid hoks
    have HBAD := Lib.hid hbad
    have HFL := Lib.hid hfl
    have d4 : decide (M < z) = false := by rw [decide_eq_false_iff_not]; omega
    have d5 : decide ((M : Int) < (z : Int)) = false := by rw [decide_eq_false_iff_not]; omega
    clear hup1 hup2 hL hK hU hq hM hN kq hoks hbad hfl hno h1 h2 h3 h4 k1' k2'
    go_enter Try.func26, Try.ntmps26
    go_wp2_with fail
    refine (HU1.out _).mono ?_
    rintro e w' ⟨rfl, q0, hw0⟩
    have hg0 : w.grownBy w' none := by rw [hw0]; exact grownBy_drewN _ _ _
    have HG0 := Lib.hid hg0
    clear hw0 hg0
    go_wp2_with fail
    go_loopw [7, 8] (fun v vi wr => ∃ (i r : Nat) (a' : Option Addr) (c' : Nat), i ≤ K ∧ Hid (r = i * q) ∧ vi = .int .i64 i ∧ v = .slice a' r c' ∧ Hid (BOwn wr w.heap.size a' r c' (bs.take i).flatten) ∧ Hid (∀ b ∈ bs.take i, b.length = q) ∧ Hid (w.grownBy wr none)) (fun _ vi _ => K - (intOf vi).toNat)
    case atStart => exact ⟨0, 0, none, 0, by omega, Lib.hid (by simp), rfl, rfl, Lib.hid (Own.nil _ _ _ _ _), Lib.hid (by simp), HG0⟩
    case round =>
      obtain ⟨i, r, a', c', hi, HRi, rfl, rfl, HO, HM, HG⟩ := hrel
      by_cases hlt : i < K
      · have hib : i < bs.length := by have := HK.out; omega
        have hiL : i < L.length := by have := HLL.out.2.1; omega
        obtain ⟨s, hs⟩ : ∃ s, s = L[i] := ⟨_, rfl⟩
        obtain ⟨b0, hb0⟩ : ∃ b0, b0 = bs[i] := ⟨_, rfl⟩
        have hLw := HLL.out.grown HG.out
        obtain ⟨gb, goff, rfl, hcell⟩ := hLw.1 i (by simpa using hiL)
        rw [List.getElem_map, ← hs] at hcell
        have hin := hLw.2.2 i hiL hib
        rw [← hs, ← hb0] at hin
        obtain ⟨sa, sn, sc⟩ := s
        obtain ⟨hbl, hbn⟩ := hin
        simp only at hbl hbn
        simp only [Sl.val] at hcell
        have HB := Lib.hid hbl
        have HBN := Lib.hid hbn
        have HB0 := Lib.hid hb0
        have HS := Lib.hid hs
        have HCE := Lib.hid hcell
        clear hbl hbn hb0 hs hLw
        by_cases he : sn = q
        · subst he
          obtain ⟨bb, boff, rfl⟩ := HB.out.addr (by have := HBN.out; omega)
          have hrN : r + sn ≤ N := by
            have h1 : (i + 1) * sn ≤ K * sn := Nat.mul_le_mul_right _ hlt
            rw [Nat.succ_mul] at h1
            have := HRi.out
            have := HN.out
            omega
          go_wp2_with fail
          go_quiet ((go_at_call 54; exact quietU (HU2.out _)))
          have hgd : wr.grownBy (wr.drewN nq) none := grownBy_drewN _ _ _
          obtain ⟨w5, hw5⟩ : ∃ w5, w5 = wr.drewN nq := ⟨_, rfl⟩
          rw [← hw5] at hgd ⊢
          have HO5 : Hid (BOwn w5 w.heap.size a' r c' (bs.take i).flatten) := Lib.hid (BOwn.grown HO.out hgd)
          have HG5 := Lib.hid (grownBy_trans HG.out hgd)
          have HB5 := Lib.hid (HB.out.grown hgd)
          have hce5 : w5.cell? ⟨gb, goff + i, none⟩ = some (.slice (some ⟨bb, boff, none⟩) sn sc) := (World.cell?_of_block (hgd.block gb (World.block_lt_of_cell? _ _ HCE.out) (by simp))).trans HCE.out
          have hsz := HG5.out.size
          clear hcell hw5 hgd
          go_wp2_with (at_builtin; refine wpList_app elB rfl (.tmp 43) (.tmp 47) rfl rfl HO5.out ⟨bb, boff, none⟩ sn sc (b0.map bval) rfl (by rw [List.length_map, ← HBN.out, Nat.mul_one]) HB5.out.news (bval_one b0) (by unfold maxLen; omega) (by omega) hsz (by omega) ?_; intro g cap w1 hown1 hgr)
          go_roundw
          case rel =>
            have hib : i < bs.length := by have := HK.out; omega
            refine ⟨i + 1, r + sn, _, _, by omega, Lib.hid (by rw [Nat.succ_mul, HRi.out]), by go_num, rfl, Lib.hid ?_, Lib.hid (mem_take_succ hib HM.out (by rw [← HB0.out]; exact HBN.out.symm)), Lib.hid (hgr.grew.grown HO5.out HG5.out (Nat.le_refl _))⟩
            rw [List.take_succ_eq_append_getElem hib, List.flatten_append, ← HB0.out]
            unfold BOwn
            rw [List.map_append]
            simpa using hown1
          case measure => simp [intOf]; omega
        · have hne : ((sn : Int) != (q : Int)) = true := by rw [bne_iff_ne]; omega
          have hbd := HBAD.out (fun h => he (by rw [HBN.out, HB0.out]; exact h _ (List.getElem_mem _)))
          go_wp2_with fail
          go_quiet ((go_at_call 54; exact quietU (HU2.out _)))
          have HGD := Lib.hid (grownBy_trans HG.out (grownBy_drewN wr nq none))
          have HBD := Lib.hid hbd
          clear hbd hcell
          go_wp2_with fail
          refine bodyPost_ret (by simp [*, results, Try.results26, go_sem]; try rfl) rfl ?_
          rw [HBD.out.1, HBD.out.2]
          exact ⟨⟨none, 0, 0, rfl, BLies.nil _ _, rfl, by omega⟩, HGD.out⟩
      · obtain rfl : i = K := by omega
        have hr : r = N := by rw [HRi.out, HN.out]
        have hall : bs.take i = bs := List.take_of_length_le (by have := HK.out; omega)
        have ho := HO.out
        have hm := HM.out
        rw [hall] at ho hm
        obtain ⟨hE, hR⟩ := HOK.out hm
        have hzr : z ≤ r := by have := HKQ.out; omega
        have hcap := (Own.cap ho).1
        obtain ⟨g, hga, _, _⟩ := Own.block ho (by omega)
        subst hga
        have hlen : bs.flatten.length = r := BOwn.len ho
        have HO2 : Hid (BLies wr (some ⟨g, 0, none⟩) (bs.flatten.take z)) := Lib.hid ((BOwn.lies ho).take z)
        have HE := Lib.hid hE
        have HR := Lib.hid hR
        have hlz : (bs.flatten.take z).length = z := by rw [List.length_take, hlen]; omega
        have HLZ := Lib.hid hlz
        have hzc : z ≤ c' := by omega
        clear ho hm hall hr hE hR hlz hlen
        go_wp2_with fail
        refine bodyPost_ret (by simp [*, results, Try.results26, go_sem]; try rfl) rfl ?_
        rw [HE.out, HR.out]
        exact ⟨⟨_, z, _, rfl, HO2.out, HLZ.out, by omega⟩, HG.out⟩

end Go.Proofs.Ytfboddnpkaiifaa
