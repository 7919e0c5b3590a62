/- cut.Blocks. -/
import Derived.Test.YtfboddnpkaiifaaLists
import Derived.Test.YtfboddnpkaiifaaCutBlkMath
import Derived.Test.YtfboddnpkaiifaaSlClone
import Derived.Test.YtfboddnpkaiifaaAppZeros
import Derived.Test.YtfboddnpkaiifaaCutUp
namespace Go.Proofs.Ytfboddnpkaiifaa
open Go.RowKit

theorem run_appz0 (w : World) (a : Option Addr) (n c : Nat) (hn : n ≤ c) (hc : c ≤ maxLen) (ty : TypeId) :
    (Builtin.append_ #[22, 3] ty #[.slice a n c, .int .i64 0]).run Try.prog w = .ok (.slice a n c) w := by
  obtain ⟨i, hi, hz, hs, hb⟩ := elB.info
  have hw : IntKind.i64.wrap 0 = 0 := by decide
  cases a <;> simp [Builtin.append_, run_underlying Try.underlying22, run_underlying Try.underlying3, sizeOf, typeInfo, zeroValue, hi, hz, hs, hb, asInt, asIntOf, hw, hn, storeCells]

theorem map_zeros (l : List UInt8) (z : Nat) : (l ++ List.replicate z 0).map bval = l.map bval ++ List.replicate z (.int .u8 0) := by
  simp [bval]

theorem appz_any (w : World) (base : Nat) (a : Option Addr) (n c z : Nat) (l : List UInt8) (ho : BOwn w base a n c l) (hb : base ≤ w.heap.size) (hn : 1 ≤ n) (hz : n + z ≤ 100000000) (ty : TypeId) :
    ∃ g c' w1, (Builtin.append_ #[22, 3] ty #[.slice a n c, .int .i64 z]).run Try.prog w = .ok (.slice (some ⟨g, 0, none⟩) (n + z) c') w1 ∧ BOwn w1 base (some ⟨g, 0, none⟩) (n + z) c' (l ++ List.replicate z 0) ∧ Grew w w1 a c (some ⟨g, 0, none⟩) c' := by
  by_cases h0 : z = 0
  · subst h0
    have hcap := ho.cap
    obtain ⟨g, ha, _, _⟩ := Own.block ho (by omega)
    subst ha
    exact ⟨g, c, w, run_appz0 w _ n c hcap.1 hcap.2 ty, by simpa using ho, .inl ⟨rfl, rfl, rfl⟩⟩
  · obtain ⟨g, c', w1, h1, h2, h3⟩ := run_appz (P := Try.prog) (ty := ty) w elB rfl rfl Try.underlying3 ho z (by omega) (by unfold maxLen; omega) (by omega) hb .i64
    exact ⟨g, c', w1, h1, by unfold BOwn; rw [map_zeros]; exact h2, .inr h3⟩

set_option maxRecDepth 100000 in
set_option maxHeartbeats 2000000 in
theorem blocks_ok (a : Option Addr) (c n k U q : Nat) (l : List UInt8) (w : World) (ha : BLies w a l) (hl : l.length = n) (hc : n ≤ c) (B : BkN k n U q) (hU : upN 65536 k = U) (hq : upN n k = q) :
    Calls Try.prog 15 #[.slice a n c, .int .i64 (k : Int)] w fun e w' => (∃ a' c', e = .returned (.tuple #[.slice a' k c', .int .i64 0]) ∧ LOwn w' w.heap.size a' k c' ((List.range k).map (bkB l k q))) ∧ w.grownBy w' none := by
  obtain ⟨k1, k2, n1, nU, U1, kU, q1, qn, kq, kq2⟩ := B
  obtain ⟨M, hM⟩ : ∃ M, M = k * U := ⟨_, rfl⟩
  rw [← hM] at nU kU
  have wU : IntKind.i64.wrap ((k : Int) * (U : Int)) = (M : Int) := by rw [hM]; rw [show ((k : Int) * (U : Int)) = ((k * U : Nat) : Int) by simp]; rw [← hM]; exact i64_nat _ (by omega)
  obtain ⟨N, hN⟩ : ∃ N, N = k * q := ⟨_, rfl⟩
  rw [← hN] at kq kq2
  have wN : IntKind.i64.wrap ((k : Int) * (q : Int)) = (N : Int) := by rw [hN]; rw [show ((k : Int) * (q : Int)) = ((k * q : Nat) : Int) by simp]; rw [← hN]; exact i64_nat _ (by omega)
  obtain ⟨z, hz⟩ : ∃ z, z = N - n := ⟨_, rfl⟩
  have wz : IntKind.i64.wrap ((N : Int) - (n : Int)) = (z : Int) := by rw [show ((N : Int) - (n : Int)) = ((z : Nat) : Int) by omega]; exact i64_nat _ (by omega)
  have hup1 : ∀ w, Calls Try.prog 51 #[.int .i64 65536, .int .i64 k] w fun e w' => e = .returned (.int .i64 (U : Nat)) ∧ w = w' := fun w => by
    have := up_n 65536 k w (by omega) k1 (by omega)
    rw [hU] at this
    exact this
  have hup2 : ∀ w, Calls Try.prog 51 #[.int .i64 n, .int .i64 k] w fun e w' => e = .returned (.int .i64 (q : Nat)) ∧ w = w' := fun w => by
    have := up_n n k w (by omega) k1 (by omega)
    rw [hq] at this
    exact this
  have hcl := sclone_n a c n l w ha hl (by omega)
  have HU1 := Lib.hid hup1
  have HU2 := Lib.hid hup2
  have HCL := Lib.hid hcl
  have HL := Lib.hid hl
  have HM := Lib.hid hM
  have HN := Lib.hid hN
  have HZ := Lib.hid hz
  have HKQ := Lib.hid kq
  clear hup1 hup2 hcl ha hl hU hq hM hN hz
  go_enter Try.func15, Try.ntmps15
  go_wp2_with fail
  refine (HU1.out _).mono ?_
  rintro e w' ⟨rfl, rfl⟩
  go_wp2_with fail
  refine (HU2.out _).mono ?_
  rintro e w' ⟨rfl, rfl⟩
  go_wp2_with fail
  refine HCL.out.mono ?_
  rintro e w1 ⟨a1, c1, rfl, ho1, hg1⟩
  obtain ⟨g, c2, w2, hrun, ho2, hgr2⟩ := appz_any w1 w.heap.size a1 n c1 z l ho1 hg1.size n1 (by have := HZ.out; omega) 22
  have hg2 : w.grownBy w2 none := hgr2.grown ho1 hg1 (Nat.le_refl _)
  have hNz : n + z = N := by have := HZ.out; omega
  rw [hNz] at hrun ho2
  have HO2 := Lib.hid ho2
  have HG2 := Lib.hid hg2
  have HR := Lib.hid hrun
  clear ho2 hg2 hrun ho1 hg1 hgr2 hNz
  go_wp2_with (at_builtin; refine Lib.wpList_append_run _ rfl _ _ _ _ rfl _ _ rfl rfl _ _ HR.out ?_)
  obtain ⟨F, hF⟩ : ∃ F, F = l ++ List.replicate z 0 := ⟨_, rfl⟩
  rw [← hF] at HO2
  have HF := Lib.hid hF
  clear hF
  go_loopw [8, 42] (fun v i wr => ∃ (j : Nat) (a' : Option Addr) (c' : Nat), j ≤ k ∧ i = .int .i64 j ∧ v = .slice a' j c' ∧ LOwn wr w.heap.size a' j c' ((List.range j).map (bkB l k q)) ∧ BOwn wr w.heap.size (some ⟨g, 0, none⟩) N c2 F ∧ w.grownBy wr none) (fun _ i _ => k - (intOf i).toNat)
  case atStart => exact ⟨0, none, 0, by omega, rfl, rfl, LOwn.nil _ _, HO2.out, HG2.out⟩
  case round =>
    obtain ⟨j, a', c', hj, rfl, rfl, hlo, hof, hg⟩ := hrel
    have HLO := Lib.hid hlo
    have HOF := Lib.hid hof
    have HG := Lib.hid hg
    clear hlo hof hg
    by_cases hlt : j < k
    · obtain ⟨r, hr⟩ : ∃ r, r = j * q := ⟨_, rfl⟩
      have hrN : r + q ≤ N := by
        have h1 : (j + 1) * q ≤ k * q := Nat.mul_le_mul_right _ hlt
        rw [Nat.succ_mul] at h1
        have := HN.out
        omega
      have wr1 : IntKind.i64.wrap ((j : Int) * (q : Int)) = (r : Int) := by rw [hr]; rw [show ((j : Int) * (q : Int)) = ((j * q : Nat) : Int) by simp]; rw [← hr]; exact i64_nat _ (by omega)
      have HRr := Lib.hid hr
      clear hr
      have HP := Lib.hid (piece_n (some ⟨g, 0, none⟩) c2 N r q F wr HOF.out.lies HOF.out.len (by omega) hrN HOF.out.cap.1)
      go_wp2_with fail
      refine HP.out.mono ?_
      rintro e wp ⟨ap, cp, rfl, hop, hgp⟩
      have hsz := HG.out.size
      have hszp := hgp.size
      obtain ⟨L, HIS⟩ := HLO.out.is
      have HIS := Lib.hid HIS
      have hS : SOwn wp w.heap.size a' j c' L := (HIS.out.grown hgp).outer
      go_wp2_with (at_builtin; refine wpList_push elS rfl (.tmp 45) (.tmp 52) rfl rfl hS (.slice ap q cp) rfl rfl (by unfold maxLen; omega) (by omega) (by omega) ?_; intro g3 cap3 w3 hown3 hgr3)
      have hb : (F.drop r).take q = bkB l k q j := by rw [HF.out, HRr.out, HZ.out]; unfold bkB; rw [HL.out, HN.out]
      have hlo3 := HIS.out.push hsz hgp hop hown3 hgr3
      rw [hb] at hlo3
      have hof3 : BOwn w3 w.heap.size (some ⟨g, 0, none⟩) N c2 F := Own.grewOther (HOF.out.grown hgp) hS hgr3 (by decide)
      have hg3 : w.grownBy w3 none := hgr3.grew.grown hS (grownBy_trans HG.out hgp) (Nat.le_refl _)
      go_roundw
      case rel => exact ⟨j + 1, _, _, by omega, by go_num, rfl, by rw [List.range_succ, List.map_append]; exact hlo3, hof3, hg3⟩
      case measure => simp [intOf]; omega
    · obtain rfl : j = k := by omega
      go_wp2_with fail
      refine bodyPost_ret (by simp [*, results, Try.results15, go_sem]; try rfl) rfl ?_
      exact ⟨⟨_, _, rfl, HLO.out⟩, HG.out⟩

end Go.Proofs.Ytfboddnpkaiifaa
