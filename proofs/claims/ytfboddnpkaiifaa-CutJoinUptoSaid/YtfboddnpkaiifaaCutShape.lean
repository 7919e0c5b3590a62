/- cut: shape; the document's laid. -/
import Derived.Test.YtfboddnpkaiifaaCutUp
import Derived.Test.YtfboddnpkaiifaaCutLaws
import Derived.Test.YtfboddnpkaiifaaOwn
import Derived.Deep.RegionHeld3
namespace Go.Proofs.Ytfboddnpkaiifaa
open Go.RowKit

set_option maxRecDepth 100000 in
set_option maxHeartbeats 8000000 in
theorem shape_l (k n g z s t q l : Nat) (p : Int) (w : World) (hk : ¬ k = 0)
    (u1 : ∀ w, Calls Try.prog 51 #[.int .i64 z, .int .i64 g] w fun e w' => e = .returned (.int .i64 s) ∧ w = w')
    (u2 : ∀ w, Calls Try.prog 51 #[.int .i64 t, .int .i64 k] w fun e w' => e = .returned (.int .i64 l) ∧ w = w')
    (w1 : wrap64 ((s : Int) - 1) = (s : Int) - 1) (w2 : wrap64 (((s : Int) - 1) * g) = p) (w3 : wrap64 ((z : Int) - p) = t) (w4 : wrap64 ((g : Int) / (k : Int)) = (q : Int))
    (i1 : IntKind.i64.wrap ((s : Int) - 1) = (s : Int) - 1) (i2 : IntKind.i64.wrap (((s : Int) - 1) * g) = p) (i3 : IntKind.i64.wrap ((z : Int) - p) = t) (i4 : IntKind.i64.wrap ((g : Int) / (k : Int)) = (q : Int)) (i5 : IntKind.i64.wrap ((g : Int).tdiv (k : Int)) = (q : Int)) :
    Calls Try.prog 55 #[.int .i64 k, .int .i64 n, .int .i64 g, .int .i64 z] w fun e w' => e = .returned (Sh.val ⟨k, n, g, z, s, t, q, l⟩) ∧ w.grownBy w' none := by
  have U1 := Lib.hid u1
  have U2 := Lib.hid u2
  clear u1 u2
  go_enter Try.func55, Try.ntmps55
  go_wp2_with fail
  go_region_held3 (fun w' => True) (exact trivial) ((go_at_call 51; refine (U1.out _).mono ?_; rintro e w' ⟨rfl, rfl⟩))
  all_goals go_wp2_with fail
  all_goals (refine (U2.out _).mono ?_; rintro e w' ⟨rfl, rfl⟩)
  all_goals go_wp2_with fail
  all_goals
    refine bodyPost_ret (v := Sh.val ⟨k, n, g, z, s, t, q, l⟩) (results_cell_row rfl _ _ w.heap.size 47 #[.int .i64 k, .int .i64 n, .int .i64 g, .int .i64 z, .int .i64 s, .int .i64 t, .int .i64 q, .int .i64 l] (0, 0) _ rfl ?_ Try.underlying47 rfl (by kernel_rfl)) rfl ⟨rfl, ?_⟩
    · show (World.alloc (World.alloc w _) _).heap[w.heap.size]? = _
      rw [Below.heap_alloc _ _ _ (by simp), heap_alloc_new]
    · exact grownBy_trans (grownBy_al (World.grownBy_alloc _ _ _) _) (grownBy_drewN _ 1 none)

/-- what the lines of a shape need of its numbers -/
structure Nums (k g z : Nat) : Prop where
  k1 : 1 ≤ k
  k2 : k ≤ 255
  g1 : 1 ≤ g
  g2 : g ≤ 65791
  z1 : 1 ≤ z
  z2 : z ≤ 16777216

/-- the numbers' laws, as the walks want them -/
structure Laid (k g z s t q l : Nat) (p : Int) : Prop where
  s1 : s ≤ 16777216
  t1 : 1 ≤ t
  t2 : t ≤ 65791
  e1 : upN z g = s
  e2 : upN t k = l
  et : tailN g z = t
  eq : g / k = q
  h2 : ((s : Int) - 1) * g = p
  h3 : (z : Int) - p = t
  w1 : wrap64 ((s : Int) - 1) = (s : Int) - 1
  w2 : wrap64 (((s : Int) - 1) * g) = p
  w3 : wrap64 ((z : Int) - p) = t
  w4 : wrap64 ((g : Int) / (k : Int)) = (q : Int)
  i1 : IntKind.i64.wrap ((s : Int) - 1) = (s : Int) - 1
  i2 : IntKind.i64.wrap (((s : Int) - 1) * g) = p
  i3 : IntKind.i64.wrap ((z : Int) - p) = t
  i4 : IntKind.i64.wrap ((g : Int) / (k : Int)) = (q : Int)
  i5 : IntKind.i64.wrap ((g : Int).tdiv (k : Int)) = (q : Int)

theorem nums_laid {k g z : Nat} (h : Nums k g z) : ∃ s t q l p, Laid k g z s t q l p := by
  obtain ⟨k1, k2, g1, g2, z1, z2⟩ := h
  have hs1 := segs_pos g1 z1
  have hs2 : segsN g z ≤ z := upN_small g1
  have ht1 := tail_pos g1 z1
  have ht2 := tail_le g1 z1
  have hte := tail_eq g1 z1
  have hql : g / k ≤ g := Nat.div_le_self _ _
  have ht3 : ((segsN g z : Int) - 1) * g = (z : Int) - (tailN g z : Nat) := by
    have h' : (((segsN g z - 1) * g + tailN g z : Nat) : Int) = (z : Int) := by rw [hte]
    rw [Int.natCast_add, Int.natCast_mul, Int.natCast_sub hs1] at h'
    simp at h'
    omega
  obtain ⟨s, es⟩ : ∃ s, s = segsN g z := ⟨_, rfl⟩
  obtain ⟨t, et⟩ : ∃ t, t = tailN g z := ⟨_, rfl⟩
  obtain ⟨q, eq⟩ : ∃ q, q = g / k := ⟨_, rfl⟩
  obtain ⟨p, ep⟩ : ∃ p, p = ((s : Int) - 1) * g := ⟨_, rfl⟩
  have hq1 : (g : Int) / (k : Int) = (q : Int) := by rw [eq]; rfl
  have hq2 : (g : Int).tdiv (k : Int) = (q : Int) := by rw [eq]; rfl
  rw [← es] at hs1 hs2 ht3
  rw [← et] at ht1 ht2 ht3
  rw [← eq] at hql
  rw [← ep] at ht3
  refine ⟨s, t, q, upN t k, p, ⟨by omega, ht1, by omega, es.symm, rfl, et.symm, eq.symm, ep.symm, by omega, IntWalk.wrap64_in _ (by omega), ?_, IntWalk.wrap64_in _ (by omega) |>.trans (by omega), ?_, IntWalk.i64_in _ (by omega), ?_, IntWalk.i64_in _ (by omega) |>.trans (by omega), ?_, ?_⟩⟩
  · rw [← ep]; exact IntWalk.wrap64_in _ (by omega)
  · rw [hq1]; exact IntWalk.wrap64_in _ (by omega)
  · rw [← ep]; exact IntWalk.i64_in _ (by omega)
  · rw [hq1]; exact IntWalk.i64_in _ (by omega)
  · rw [hq2]; exact IntWalk.i64_in _ (by omega)

theorem Laid.val {k n g z s t q l : Nat} {p : Int} (h : Laid k g z s t q l p) : laidN k n g z = ⟨k, n, g, z, s, t, q, l⟩ := by
  unfold laidN segsN
  rw [h.e1, h.et, h.eq, h.e2]

theorem shape_n (k n g z : Nat) (w : World) (h : Nums k g z) :
    Calls Try.prog 55 #[.int .i64 k, .int .i64 n, .int .i64 g, .int .i64 z] w fun e w' => e = .returned (laidN k n g z).val ∧ w.grownBy w' none := by
  obtain ⟨s, t, q, l, p, L⟩ := nums_laid h
  rw [L.val]
  refine shape_l k n g z s t q l p w (by have := h.k1; omega) (fun w => ?_) (fun w => ?_) L.w1 L.w2 L.w3 L.w4 L.i1 L.i2 L.i3 L.i4 L.i5
  · have := up_n z g w (by have := h.z2; omega) h.g1 (by have := h.g2; omega)
    rwa [L.e1] at this
  · have := up_n t k w (by have := L.t2; omega) h.k1 (by have := h.k2; omega)
    rwa [L.e2] at this

end Go.Proofs.Ytfboddnpkaiifaa
