/- cut: Shape, whole. -/
import Derived.Test.YtfboddnpkaiifaaCutShapeG
import Derived.Test.YtfboddnpkaiifaaCutLaws
namespace Go.Proofs.Ytfboddnpkaiifaa
open Go.RowKit

theorem grown_cell {w w' : World} (g : w.grownBy w' none) {a : Addr} {v : Value} (h : w.cell? a = some v) : w'.cell? a = some v :=
  (World.cell?_of_block (g.block _ (World.block_lt_of_cell? w a h) (by simp))).trans h

theorem grown_at {w w' : World} (g : w.grownBy w' none) (a : Addr) (h : a.block < w.heap.size) : w'.cell? a = w.cell? a :=
  World.cell?_of_block (g.block _ h (by simp))
theorem grown_fr {w w' : World} (g : w.grownBy w' none) (a : Addr) (h : a.block < w.heap.size) : w'.frozen? a = w.frozen? a := by
  unfold World.frozen?
  rw [g.block _ h (by simp)]

theorem set_at (w : World) (p a : Addr) (v : Value) (h : a.block ≠ p.block) : (w.setCell p v).cell? a = w.cell? a :=
  World.cell?_of_block (Below.heap_setCell _ _ _ _ h)

theorem set_of (w : World) {b b' : Nat} (h : b ≠ b') (o o' : Nat) (v : Value) : (w.setCell ⟨b', o', none⟩ v).cell? ⟨b, o, none⟩ = w.cell? ⟨b, o, none⟩ :=
  set_at w _ _ v h
theorem alloc_of (w : World) {b : Nat} (h : b < w.heap.size) (o : Nat) (x : Obj) : (w.alloc x).cell? ⟨b, o, none⟩ = w.cell? ⟨b, o, none⟩ :=
  grown_at (World.grownBy_alloc w x none) _ h

theorem shE_bad {k n seg : Int} {ln : Nat} {z : Int} (h : ¬ good k n seg ln) : shE k n seg ln z = 3 := if_neg h
theorem shE_size {k n seg : Int} {ln : Nat} {z : Int} (h : good k n seg ln) (hz : ¬ sized z) : shE k n seg ln z = 4 := by unfold shE; rw [if_pos h, if_neg hz]
theorem shE_many {k n seg : Int} {ln : Nat} {z : Int} (h : good k n seg ln) (hz : sized z) (hs : ¬ segsN (segT k seg) z.toNat ≤ 512) : shE k n seg ln z = 3 := by unfold shE; rw [if_pos h, if_pos hz, if_neg hs]
theorem shS_no {k n seg : Int} {ln : Nat} {z : Int} (h : shE k n seg ln z ≠ 0) : shS k n seg ln z = noSh := if_neg h

set_option maxRecDepth 100000 in
set_option maxHeartbeats 4000000 in
theorem shape_t (k n seg happy z : Int) (a : Option Addr) (ln c : Nat) (w : World) :
    Calls Try.prog 29 #[prV k n seg happy a ln c, .int .i64 z] w fun e w' => e = .returned (.tuple #[(shS k n seg ln z).val, .int .i64 (shE k n seg ln z : Nat)]) ∧ w.grownBy w' none := by
  have hc := fun w => check_n k n seg happy a ln c w
  by_cases hg : good k n seg ln
  · have h0 := chE_good hg
    rw [h0] at hc
    have HC := Lib.hid hc
    clear hc h0
    by_cases hz : sized z
    · have hz0 := hz
      obtain ⟨z1, z2⟩ := hz
      have hg0 := hg
      obtain ⟨h1, h2, h3, h4, h5, h6, h7⟩ := hg
      obtain ⟨K, rfl⟩ : ∃ K : Nat, k = (K : Int) := ⟨k.toNat, by omega⟩
      obtain ⟨N, rfl⟩ : ∃ K : Nat, n = (K : Int) := ⟨n.toNat, by omega⟩
      obtain ⟨SG, rfl⟩ : ∃ K : Nat, seg = (K : Int) := ⟨seg.toNat, by omega⟩
      obtain ⟨Z, rfl⟩ : ∃ K : Nat, z = (K : Int) := ⟨z.toNat, by omega⟩
      have hG : segT (K : Int) (SG : Int) = K * upN SG K := by simp [segT]
      have hlt := upN_lt (a := SG) (b := K) (by omega)
      have hpos := upN_pos (a := SG) (b := K) (by omega) (by omega)
      have hle : K * upN SG K ≤ 65791 := by rw [Nat.mul_comm]; omega
      have hge : 1 ≤ K * upN SG K := Nat.mul_pos (by omega) (by omega)
      have hnum : Nums K (segT (K : Int) (SG : Int)) Z := ⟨by omega, by omega, by rw [hG]; exact hge, by rw [hG]; exact hle, by omega, by omega⟩
      obtain ⟨s, t, q, l, p, L⟩ := nums_laid hnum
      have hL := L.val (n := N)
      have hu := fun w => up_n SG K w (by omega) (by omega) (by omega)
      have hs := fun w => shape_n K N (segT (K : Int) (SG : Int)) Z w hnum
      rw [hL] at hs
      have m0 : (K : Int) * ((upN SG K : Nat) : Int) = ((segT (K : Int) (SG : Int) : Nat) : Int) := by rw [hG]; exact (Int.natCast_mul _ _).symm
      have m1 : IntKind.i64.wrap ((K : Int) * ((upN SG K : Nat) : Int)) = ((segT (K : Int) (SG : Int) : Nat) : Int) := by rw [m0]; exact IntWalk.i64_in _ (by rw [hG]; omega)
      have m2 : wrap64 ((K : Int) * ((upN SG K : Nat) : Int)) = ((segT (K : Int) (SG : Int) : Nat) : Int) := by rw [m0]; exact IntWalk.wrap64_in _ (by rw [hG]; omega)
      refine (shape_g K N SG Z (upN SG K) (segT (K : Int) (SG : Int)) s t q l happy a ln c w (by omega) (by omega) (fun w => HC.out w) hu hs m1 m2).mono ?_
      rintro e w' ⟨rfl, hgr⟩
      refine ⟨?_, hgr⟩
      have hseg : segsN (segT (K : Int) (SG : Int)) ((Z : Int)).toNat = s := L.e1
      by_cases hsg : s ≤ 512
      · have h0 : shE (K : Int) N SG ln Z = 0 := shE_zero.2 ⟨hg0, hz0, by rw [hseg]; exact hsg⟩
        rw [if_pos hsg, h0]
        unfold shS
        rw [if_pos h0]
        simp only [Int.toNat_natCast]
        rw [hL]
        rfl
      · have h0 : shE (K : Int) N SG ln Z = 3 := shE_many hg0 hz0 (by rw [hseg]; exact hsg)
        rw [if_neg hsg, shS_no (by rw [h0]; decide), h0]
        rfl
    · rw [shS_no (by rw [shE_size hg hz]; decide), shE_size hg hz]
      have hz' : z ≤ 32 ∨ 16777216 < z := by unfold sized at hz; omega
      clear hg hz
      unfold prV at *
      rcases hz' with hz' | hz'
      · skip
        show Calls Try.prog 29 #[.agg #[.int .i64 k, .int .i64 n, .int .i64 seg, .int .i64 happy, .slice a ln c], .int .i64 z] w fun e w' => e = .returned (.tuple #[.agg #[.int .i64 0, .int .i64 0, .int .i64 0, .int .i64 0, .int .i64 0, .int .i64 0, .int .i64 0, .int .i64 0], .int .i64 4]) ∧ w.grownBy w' none
        go_enter Try.func29, Try.ntmps29
        go_wp2_with fail
        refine (HC.out _).mono ?_
        rintro e w1 ⟨rfl, g⟩
        have hcell := grown_at g
        have hfroz := grown_fr g
        go_wp2_with fail
        (try simp only [Exit.inBlock, Exit.then])
        refine bodyPost_ret (by simp [*, results, Try.results29, go_sem]; try rfl) rfl ?_
        refine ⟨rfl, ?_⟩
        repeat (refine grownBy_old ?_ (grownBy_setCell _ _ _ _) (by simp))
        exact grownBy_trans (grownBy_al (World.grownBy_alloc _ _ _) _) g
      · by_cases hz2 : z ≤ 32
        · omega
        show Calls Try.prog 29 #[.agg #[.int .i64 k, .int .i64 n, .int .i64 seg, .int .i64 happy, .slice a ln c], .int .i64 z] w fun e w' => e = .returned (.tuple #[.agg #[.int .i64 0, .int .i64 0, .int .i64 0, .int .i64 0, .int .i64 0, .int .i64 0, .int .i64 0, .int .i64 0], .int .i64 4]) ∧ w.grownBy w' none
        go_enter Try.func29, Try.ntmps29
        go_wp2_with fail
        refine (HC.out _).mono ?_
        rintro e w1 ⟨rfl, g⟩
        have hcell := grown_at g
        have hfroz := grown_fr g
        go_wp2_with fail
        (try simp only [Exit.inBlock, Exit.then])
        refine bodyPost_ret (by simp [*, results, Try.results29, go_sem]; try rfl) rfl ?_
        refine ⟨rfl, ?_⟩
        repeat (refine grownBy_old ?_ (grownBy_setCell _ _ _ _) (by simp))
        exact grownBy_trans (grownBy_al (World.grownBy_alloc _ _ _) _) g
  · have h0 := chE_bad hg
    rw [h0] at hc
    have HC := Lib.hid hc
    rw [shS_no (by rw [shE_bad hg]; decide), shE_bad hg]
    clear hc h0 hg
    unfold prV at *
    show Calls Try.prog 29 #[.agg #[.int .i64 k, .int .i64 n, .int .i64 seg, .int .i64 happy, .slice a ln c], .int .i64 z] w fun e w' => e = .returned (.tuple #[.agg #[.int .i64 0, .int .i64 0, .int .i64 0, .int .i64 0, .int .i64 0, .int .i64 0, .int .i64 0, .int .i64 0], .int .i64 3]) ∧ w.grownBy w' none
    go_enter Try.func29, Try.ntmps29
    go_wp2_with fail
    refine (HC.out _).mono ?_
    rintro e w1 ⟨rfl, g⟩
    have hcell := grown_at g
    have hfroz := grown_fr g
    go_wp2_with fail
    (try simp only [Exit.inBlock, Exit.then])
    refine bodyPost_ret (by simp [*, results, Try.results29, go_sem]; try rfl) rfl ?_
    refine ⟨rfl, ?_⟩
    repeat (refine grownBy_old ?_ (grownBy_setCell _ _ _ _) (by simp))
    exact grownBy_trans (grownBy_al (World.grownBy_alloc _ _ _) _) g

end Go.Proofs.Ytfboddnpkaiifaa
