/- cut: the document's laid. -/
import Derived.Test.YtfboddnpkaiifaaCutShapeT
namespace Go.Proofs.Ytfboddnpkaiifaa
open Go.RowKit

set_option maxRecDepth 100000 in
set_option maxHeartbeats 8000000 in
theorem refLaid_l (k n g z s t q l : Nat) (p : Int) (w : World) (hk : ¬ k = 0)
    (u1 : ∀ w, Calls Try.prog 54 #[.int .i64 z, .int .i64 g] w fun e w' => e = .returned (.int .i64 s) ∧ ∃ q, w' = w.drewN q)
    (u2 : ∀ w, Calls Try.prog 54 #[.int .i64 t, .int .i64 k] w fun e w' => e = .returned (.int .i64 l) ∧ ∃ q, w' = w.drewN q)
    (w1 : wrap64 ((s : Int) - 1) = (s : Int) - 1) (w2 : wrap64 (((s : Int) - 1) * g) = p) (w3 : wrap64 ((z : Int) - p) = t) (w4 : wrap64 ((g : Int) / (k : Int)) = (q : Int))
    (i1 : IntKind.i64.wrap ((s : Int) - 1) = (s : Int) - 1) (i2 : IntKind.i64.wrap (((s : Int) - 1) * g) = p) (i3 : IntKind.i64.wrap ((z : Int) - p) = t) (i4 : IntKind.i64.wrap ((g : Int) / (k : Int)) = (q : Int)) (i5 : IntKind.i64.wrap ((g : Int).tdiv (k : Int)) = (q : Int)) :
    Calls Try.prog 56 #[.int .i64 k, .int .i64 n, .int .i64 g, .int .i64 z] w fun e w' => e = .returned (Sh.val ⟨k, n, g, z, s, t, q, l⟩) ∧ w.grownBy w' none := by
  have U1 := Lib.hid u1
  have U2 := Lib.hid u2
  clear u1 u2
  go_enter Try.func56, Try.ntmps56
  go_wp2_with fail
  refine (U1.out _).mono ?_; rintro e w' ⟨rfl, q1, rfl⟩
  go_wp2_with fail
  refine (U2.out _).mono ?_; rintro e w' ⟨rfl, q2, rfl⟩
  go_wp2_with fail
  refine bodyPost_ret (by simp [*, results, Try.results56, go_sem]; try rfl) rfl ?_
  refine ⟨rfl, ?_⟩
  repeat (first | refine grownBy_old ?_ (grownBy_setCell _ _ _ _) (by simp) | refine grownBy_trans ?_ (grownBy_drewN _ _ none))
  exact grownBy_al (World.grownBy_alloc _ _ _) _

theorem refLaid_n (k n g z : Nat) (w : World) (h : Nums k g z) :
    Calls Try.prog 56 #[.int .i64 k, .int .i64 n, .int .i64 g, .int .i64 z] w fun e w' => e = .returned (laidN k n g z).val ∧ w.grownBy w' none := by
  obtain ⟨s, t, q, l, p, L⟩ := nums_laid h
  rw [L.val]
  refine refLaid_l k n g z s t q l p w (by have := h.k1; omega) (fun w => ?_) (fun w => ?_) L.w1 L.w2 L.w3 L.w4 L.i1 L.i2 L.i3 L.i4 L.i5
  · have := refUp_n z g w (by have := h.z2; omega) h.g1 (by have := h.g2; omega)
    rwa [L.e1] at this
  · have := refUp_n t k w (by have := L.t2; omega) h.k1 (by have := h.k2; omega)
    rwa [L.e2] at this

end Go.Proofs.Ytfboddnpkaiifaa
