/- cut.Join. -/
import Derived.Test.YtfboddnpkaiifaaCutBlocks
namespace Go.Proofs.Ytfboddnpkaiifaa
open Go.RowKit

theorem piece_0 (a : Option Addr) (c N n : Nat) (l : List UInt8) (w : World) (ha : BLies w a l) (hl : l.length = N) (hN : N ≤ 100000000) (hn : n ≤ N) (hc : N ≤ c) :
    Calls Try.prog 53 #[.slice a N c, .int .i64 0, .int .i64 (n : Int)] w fun e w' => ∃ a' c', e = .returned (.slice a' n c') ∧ BOwn w' w.heap.size a' n c' (l.take n) ∧ w.grownBy w' none := by
  simpa using piece_n a c N 0 n l w ha hl hN (by omega) hc

theorem flatten_len {bs : List (List UInt8)} {q : Nat} (h : ∀ b ∈ bs, b.length = q) : bs.flatten.length = bs.length * q := by
  induction bs with
  | nil => simp
  | cons b r ih =>
    rw [List.flatten_cons, List.length_append, ih (fun b hb => h b (by simp [hb])), h b (by simp), List.length_cons, Nat.succ_mul, Nat.add_comm]

theorem mem_take_succ {bs : List (List UInt8)} {q i : Nat} (hi : i < bs.length) (h : ∀ b ∈ bs.take i, b.length = q) (e : (bs[i]).length = q) : ∀ b ∈ bs.take (i + 1), b.length = q := by
  intro b hb
  rw [List.take_succ_eq_append_getElem hi] at hb
  rcases List.mem_append.1 hb with hb | hb
  · exact h b hb
  · simp at hb; subst hb; exact e

set_option maxRecDepth 100000 in
set_option maxHeartbeats 2000000 in
theorem join_ok (a : Option Addr) (c K z U q : Nat) (L : List Sl) (bs : List (List UInt8)) (w : World) (hL : LLies w a L bs) (hK : bs.length = K) (B : BkN K z U q) (hU : upN 65536 K = U) (hq : upN z K = q) :
    Calls Try.prog 23 #[.slice a K c, .int .i64 (z : Int)] w fun e w' => ((∀ b ∈ bs, b.length = q) ∧ (∃ a' c', e = .returned (.tuple #[.slice a' z c', .int .i64 0]) ∧ BOwn w' w.heap.size a' z c' (bs.flatten.take z)) ∨ (¬ ∀ b ∈ bs, b.length = q) ∧ e = .returned (.tuple #[.slice none 0 0, .int .i64 91])) ∧ w.grownBy w' none := by
  obtain ⟨k1, k2, n1, nU, U1, kU, q1, qn, kq, kq2⟩ := B
  obtain ⟨M, hM⟩ : ∃ M, M = K * U := ⟨_, rfl⟩
  rw [← hM] at nU kU
  have wU : IntKind.i64.wrap ((K : Int) * (U : Int)) = (M : Int) := by rw [hM]; rw [show ((K : Int) * (U : Int)) = ((K * U : Nat) : Int) by simp]; rw [← hM]; exact i64_nat _ (by omega)
  have hup1 : ∀ w, Calls Try.prog 51 #[.int .i64 65536, .int .i64 K] w fun e w' => e = .returned (.int .i64 (U : Nat)) ∧ w = w' := fun w => by
    have := up_n 65536 K w (by omega) k1 (by omega)
    rw [hU] at this
    exact this
  have hup2 : ∀ w, Calls Try.prog 51 #[.int .i64 z, .int .i64 K] w fun e w' => e = .returned (.int .i64 (q : Nat)) ∧ w = w' := fun w => by
    have := up_n z K w (by omega) k1 (by omega)
    rw [hq] at this
    exact this
  obtain ⟨N, hN⟩ : ∃ N, N = K * q := ⟨_, rfl⟩
  rw [← hN] at kq kq2
  have HU1 := Lib.hid hup1
  have HU2 := Lib.hid hup2
  have HLL := Lib.hid hL
  have HK := Lib.hid hK
  have HN := Lib.hid hN
  have HKQ := Lib.hid kq
  clear hup1 hup2 hL hK hU hq hM hN kq
  have d1 : decide (M < z) = false := by rw [decide_eq_false_iff_not]; omega
  have d2 : decide ((M : Int) < (z : Int)) = false := by rw [decide_eq_false_iff_not]; omega
  go_enter Try.func23, Try.ntmps23
  go_wp2_with fail
  refine (HU1.out _).mono ?_
  rintro e w' ⟨rfl, rfl⟩
  go_wp2_with fail
  go_loopw [7, 32] (fun v vi wr => ∃ (i r : Nat) (a' : Option Addr) (c' : Nat), i ≤ K ∧ Hid (r = i * q) ∧ vi = .int .i64 i ∧ v = .slice a' r c' ∧ Hid (BOwn wr w.heap.size a' r c' (bs.take i).flatten) ∧ Hid (∀ b ∈ bs.take i, b.length = q) ∧ Hid (w.grownBy wr none)) (fun _ vi _ => K - (intOf vi).toNat)
  case atStart => exact ⟨0, 0, none, 0, by omega, Lib.hid (by simp), rfl, rfl, Lib.hid (Own.nil _ _ _ _ _), Lib.hid (by simp), Lib.hid (World.grownBy.refl _ _)⟩
  case round =>
    obtain ⟨i, r, a', c', hi, HRi, rfl, rfl, HO, HM, HG⟩ := hrel
    by_cases hlt : i < K
    · have hib : i < bs.length := by have := HK.out; omega
      have hiL : i < L.length := by have := HLL.out.2.1; omega
      obtain ⟨s, hs⟩ : ∃ s, s = L[i] := ⟨_, rfl⟩
      obtain ⟨b0, hb0⟩ : ∃ b0, b0 = bs[i] := ⟨_, rfl⟩
      have hLw := HLL.out.grown HG.out
      obtain ⟨gb, goff, rfl, hcell⟩ := hLw.1 i (by simpa using hiL)
      rw [List.getElem_map, ← hs] at hcell
      have hin := hLw.2.2 i hiL hib
      rw [← hs, ← hb0] at hin
      obtain ⟨sa, sn, sc⟩ := s
      obtain ⟨hbl, hbn⟩ := hin
      simp only at hbl hbn
      simp only [Sl.val] at hcell
      have HB := Lib.hid hbl
      have HBN := Lib.hid hbn
      have HB0 := Lib.hid hb0
      have HS := Lib.hid hs
      clear hbl hbn hb0 hs hLw
      by_cases he : sn = q
      · subst he
        obtain ⟨bb, boff, rfl⟩ := HB.out.addr (by have := HBN.out; omega)
        have hrN : r + sn ≤ N := by
          have h1 : (i + 1) * sn ≤ K * sn := Nat.mul_le_mul_right _ hlt
          rw [Nat.succ_mul] at h1
          have := HRi.out
          have := HN.out
          omega
        have hsz := HG.out.size
        go_wp2_with fail
        refine (HU2.out _).mono ?_
        rintro e w' ⟨rfl, rfl⟩
        go_wp2_with (at_builtin; refine wpList_app elB rfl (.tmp 42) (.tmp 43) rfl rfl HO.out ⟨bb, boff, none⟩ sn sc (b0.map bval) rfl (by rw [List.length_map, ← HBN.out, Nat.mul_one]) HB.out.news (bval_one b0) (by unfold maxLen; omega) (by omega) hsz (by omega) ?_; intro g cap w1 hown1 hgr)
        go_roundw
        case rel =>
          have hib : i < bs.length := by have := HK.out; omega
          refine ⟨i + 1, r + sn, _, _, by omega, Lib.hid (by rw [Nat.succ_mul, HRi.out]), by go_num, rfl, Lib.hid ?_, Lib.hid (mem_take_succ hib HM.out (by rw [← HB0.out]; exact HBN.out.symm)), Lib.hid (hgr.grew.grown HO.out HG.out (Nat.le_refl _))⟩
          rw [List.take_succ_eq_append_getElem hib, List.flatten_append, ← HB0.out]
          unfold BOwn
          rw [List.map_append]
          simpa using hown1
        case measure => simp [intOf]; omega
      · have hne : ((sn : Int) != (q : Int)) = true := by rw [bne_iff_ne]; omega
        go_wp2_with fail
        refine (HU2.out _).mono ?_
        rintro e w' ⟨rfl, rfl⟩
        go_wp2_with fail
        refine bodyPost_ret (by simp [*, results, Try.results23, go_sem]; try rfl) rfl ?_
        refine ⟨.inr ⟨fun h => he ?_, rfl⟩, HG.out⟩
        rw [HBN.out, HB0.out]
        exact h _ (List.getElem_mem _)
    · obtain rfl : i = K := by omega
      have hr : r = N := by rw [HRi.out, HN.out]
      have hall : bs.take i = bs := List.take_of_length_le (by have := HK.out; omega)
      have ho := HO.out
      have hm := HM.out
      rw [hall] at ho hm
      have HM2 := Lib.hid hm
      have hzr : z ≤ r := by have := HKQ.out; omega
      have HP := Lib.hid (piece_0 a' c' r z bs.flatten wr ho.lies ho.len (by omega) hzr ho.cap.1)
      clear ho hm hall hr
      go_wp2_with fail
      refine HP.out.mono ?_
      rintro e w' ⟨a2, c2, rfl, ho2, hg2⟩
      go_wp2_with fail
      refine bodyPost_ret (by simp [*, results, Try.results23, go_sem]; try rfl) rfl ?_
      exact ⟨.inl ⟨HM2.out, _, _, rfl, ho2.mono HG.out.size⟩, grownBy_trans HG.out hg2⟩

end Go.Proofs.Ytfboddnpkaiifaa
