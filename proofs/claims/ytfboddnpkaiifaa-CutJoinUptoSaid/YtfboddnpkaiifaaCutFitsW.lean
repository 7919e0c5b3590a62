/- cut: Fits. -/
import Derived.Test.YtfboddnpkaiifaaCutFits
namespace Go.Proofs.Ytfboddnpkaiifaa
open Go.RowKit

theorem wpList_load_rowW {P : Program} {ops : Array Oper} {rest : List Oper} {o : Oper} {a : Act} {w : World} {Q : Exit → Act → World → Prop} (hw : Region.wanted o (yielded ops a.tmps) = true) (ty : TypeId) (x : Operand) (ho : o.op = .load ty x)
    (g : Nat) (hx : a.eval x = .pointer (some ⟨g, 0, none⟩)) (t : TypeId) (cs : Array Value) (fr : Nat × Nat) (d : TypeDesc) (hg : w.heap[g]? = some (.cells cs t fr))
    (hu : P.underlying ty = some d) (hd : (match d with | .struct _ | .array _ _ => true | _ => false) = true) (hi : (P.info? ty).map (·.size) = some cs.size)
    (h : wpList P ops Q rest (a.put o.dst (.agg cs)) w) : wpList P ops Q (o :: rest) a w := by
  unfold wpList
  rw [if_pos hw]
  exact .inl (wp_load_row ty x ho g hx t cs fr d hg hu hd hi h)

theorem i64ok_nat {n : Nat} (h : n ≤ 100000000) : i64ok (n : Int) := ⟨by omega, by omega⟩
theorem noSh_wf : noSh.Wf := by constructor <;> exact ⟨by decide, by decide⟩
theorem laid_wf {k n g z : Nat} (hn : n ≤ 255) (h : Nums k g z) : (laidN k n g z).Wf := by
  obtain ⟨s, t, q, l, p, L⟩ := nums_laid h
  rw [L.val]
  have h1 := h.k2
  have h2 := h.g2
  have h3 := h.z2
  have h4 := L.s1
  have h5 := L.t2
  have h6 : l ≤ t := by rw [← L.e2]; exact upN_small h.k1
  have h7 : q ≤ g := by rw [← L.eq]; exact Nat.div_le_self _ _
  exact ⟨i64ok_nat (by omega), i64ok_nat (by omega), i64ok_nat (by omega), i64ok_nat (by omega), i64ok_nat (by omega), i64ok_nat (by omega), i64ok_nat (by omega), i64ok_nat (by omega)⟩
theorem four_nums {k n seg z : Int} (h : four k n seg z) : Nums k.toNat seg.toNat z.toNat ∧ n.toNat ≤ 255 := by
  obtain ⟨h1, h2, h3, h4, h5, h6, h7, h8, h9⟩ := h
  have hd := Nat.div_add_mod seg.toNat k.toNat
  rw [h6, Nat.add_zero] at hd
  have hu := upN_lt (a := 65536) (b := k.toNat) (by omega)
  have hm : k.toNat * (seg.toNat / k.toNat) ≤ k.toNat * upN 65536 k.toNat := Nat.mul_le_mul_left _ h7
  rw [Nat.mul_comm k.toNat (upN _ _)] at hm
  exact ⟨⟨by omega, by omega, by omega, by omega, by omega, by omega⟩, by omega⟩
theorem ag_wf (k n seg z : Int) : (agS k n seg z).Wf := by
  unfold agS
  split
  · obtain ⟨h1, h2⟩ := four_nums (agE_zero.1 (by assumption)).1
    exact laid_wf h2 h1
  · exact noSh_wf
theorem good_nums {k n seg z : Int} {ls : Nat} (h : good k n seg ls) (hz : sized z) : Nums k.toNat (segT k seg) z.toNat ∧ n.toNat ≤ 255 := by
  have := four_nums (four_of h hz)
  simpa using this
theorem sh_wf (k n seg : Int) (ls : Nat) (z : Int) : (shS k n seg ls z).Wf := by
  unfold shS
  split
  · obtain ⟨h1, h2, _⟩ := shE_zero.1 (by assumption)
    obtain ⟨h3, h4⟩ := good_nums h1 h2
    exact laid_wf h4 h3
  · exact noSh_wf

theorem fits_dec (s : Sh) : decide (fits s) = (decide (agE s.k s.n s.seg s.size = 0) && decide (s = agS s.k s.n s.seg s.size)) := by
  have h : fits s ↔ agE s.k s.n s.seg s.size = 0 ∧ s = agS s.k s.n s.seg s.size := Iff.rfl
  rw [← Bool.decide_and]
  exact decide_eq_decide.2 h

set_option maxRecDepth 100000 in
set_option maxHeartbeats 2000000 in
theorem fits_n (s : Sh) (hs : s.Wf) (w : World) : Calls Try.prog 36 #[s.val] w fun e w' => e = .returned (.bool (decide (fits s))) ∧ w.grownBy w' none := by
  have ha := fun w => again_n s.k s.n s.seg s.size hs.seg.2 w
  have hq := fun w => (eq_sh hs (ag_wf s.k s.n s.seg s.size) w).1
  have hres := fits_dec s
  rw [hres]
  generalize agS s.k s.n s.seg s.size = T at ha hq hres ⊢
  generalize agE s.k s.n s.seg s.size = E at ha hq hres ⊢
  generalize hc : decide (s = T) = c at hq hres ⊢
  clear hc hres
  obtain ⟨k, n, g, z, sg, t, b, l⟩ := s
  obtain ⟨k', n', g', z', sg', t', b', l'⟩ := T
  have HA := Lib.hid ha
  have hq' : ∀ w, (binOp .eql 47 (.agg #[.int .i64 k, .int .i64 n, .int .i64 g, .int .i64 z, .int .i64 sg, .int .i64 t, .int .i64 b, .int .i64 l]) (.agg #[.int .i64 k', .int .i64 n', .int .i64 g', .int .i64 z', .int .i64 sg', .int .i64 t', .int .i64 b', .int .i64 l'])).run Try.prog w = .ok (.bool c) w := hq
  have hgu := eq_guard_sh
  clear ha hq hs
  show Calls Try.prog 36 #[.agg #[.int .i64 k, .int .i64 n, .int .i64 g, .int .i64 z, .int .i64 sg, .int .i64 t, .int .i64 b, .int .i64 l]] w _
  go_enter Try.func36, Try.ntmps36
  go_wp2_with fail
  refine (HA.out _).mono ?_
  rintro e w1 ⟨rfl, hg⟩
  have hp := heap_grown (heap_alloc_new w (.cells #[.int .i64 k, .int .i64 n, .int .i64 g, .int .i64 z, .int .i64 sg, .int .i64 t, .int .i64 b, .int .i64 l] 47)) hg
  have hg0 := grownBy_trans (World.grownBy_alloc w (.cells #[.int .i64 k, .int .i64 n, .int .i64 g, .int .i64 z, .int .i64 sg, .int .i64 t, .int .i64 b, .int .i64 l] 47) none) hg
  have hl1 : w.heap.size < w1.heap.size := (Array.getElem?_eq_some_iff.1 hp).1
  have HG0 := Lib.hid hg0
  have HP := Lib.hid hp
  clear hg hg0 hp
  have HN := Lib.hid (heap_alloc_new w1 (.cells #[.int .i64 0, .int .i64 0, .int .i64 0, .int .i64 0, .int .i64 0, .int .i64 0, .int .i64 0, .int .i64 0] 47))
  have HP2 := Lib.hid (heap_grown HP.out (World.grownBy_alloc w1 (.cells #[.int .i64 0, .int .i64 0, .int .i64 0, .int .i64 0, .int .i64 0, .int .i64 0, .int .i64 0, .int .i64 0] 47) none))
  have HG2 := Lib.hid (grownBy_trans HG0.out (World.grownBy_alloc w1 (.cells #[.int .i64 0, .int .i64 0, .int .i64 0, .int .i64 0, .int .i64 0, .int .i64 0, .int .i64 0, .int .i64 0] 47) none))
  obtain ⟨W, hW⟩ : ∃ W, W = (w1.alloc (.cells #[.int .i64 0, .int .i64 0, .int .i64 0, .int .i64 0, .int .i64 0, .int .i64 0, .int .i64 0, .int .i64 0] 47)).setRow w1.heap.size #[.int .i64 k', .int .i64 n', .int .i64 g', .int .i64 z', .int .i64 sg', .int .i64 t', .int .i64 b', .int .i64 l'] := ⟨_, rfl⟩
  have hg1 := grownBy_old HG2.out (grownBy_setRow _ w1.heap.size #[.int .i64 k', .int .i64 n', .int .i64 g', .int .i64 z', .int .i64 sg', .int .i64 t', .int .i64 b', .int .i64 l']) (by omega)
  have hn1 : ((w1.alloc (.cells #[.int .i64 0, .int .i64 0, .int .i64 0, .int .i64 0, .int .i64 0, .int .i64 0, .int .i64 0, .int .i64 0] 47)).setRow w1.heap.size #[.int .i64 k', .int .i64 n', .int .i64 g', .int .i64 z', .int .i64 sg', .int .i64 t', .int .i64 b', .int .i64 l']).heap[w1.heap.size]? = some (.cells #[.int .i64 k', .int .i64 n', .int .i64 g', .int .i64 z', .int .i64 sg', .int .i64 t', .int .i64 b', .int .i64 l'] 47 (0, 0)) := setRow_heap _ _ _ _ _ _ HN.out
  have hr1 : ((w1.alloc (.cells #[.int .i64 0, .int .i64 0, .int .i64 0, .int .i64 0, .int .i64 0, .int .i64 0, .int .i64 0, .int .i64 0] 47)).setRow w1.heap.size #[.int .i64 k', .int .i64 n', .int .i64 g', .int .i64 z', .int .i64 sg', .int .i64 t', .int .i64 b', .int .i64 l']).heap[w.heap.size]? = some (.cells #[.int .i64 k, .int .i64 n, .int .i64 g, .int .i64 z, .int .i64 sg, .int .i64 t, .int .i64 b, .int .i64 l] 47 (0, 0)) := (setRow_other _ w1.heap.size w.heap.size _ (by omega)).trans HP2.out
  rw [← hW] at hg1 hn1 hr1
  have HGG := Lib.hid hg1
  have HN1 := Lib.hid hn1
  have HRR := Lib.hid hr1
  have HW := Lib.hid hW
  clear hg1 hn1 hr1 hW
  by_cases hE : E = 0
  · subst hE
    have hE' : ((0 : Nat) : Int) = 0 := rfl
    go_wp2_with (first | (refine wpList_store_row rfl 47 _ _ rfl w1.heap.size #[.int .i64 k', .int .i64 n', .int .i64 g', .int .i64 z', .int .i64 sg', .int .i64 t', .int .i64 b', .int .i64 l'] rfl rfl 47 _ HN.out size_shape rfl (by simp [Value.oneCell']) ?_; rw [← HW.out]) | (refine wpList_load_rowW (by rfl) 47 _ rfl w1.heap.size rfl 47 #[.int .i64 k', .int .i64 n', .int .i64 g', .int .i64 z', .int .i64 sg', .int .i64 t', .int .i64 b', .int .i64 l'] (0, 0) _ HN1.out Try.underlying47 rfl size_shape ?_) | (refine wpList_load_rowW (by rfl) 47 _ rfl w.heap.size rfl 47 #[.int .i64 k, .int .i64 n, .int .i64 g, .int .i64 z, .int .i64 sg, .int .i64 t, .int .i64 b, .int .i64 l] (0, 0) _ HRR.out Try.underlying47 rfl size_shape ?_))
    go_ret
    exact ⟨by simp, HGG.out⟩
  · have hE' : ¬ (E : Int) = 0 := by omega
    go_wp2_with (first | (refine wpList_store_row rfl 47 _ _ rfl w1.heap.size #[.int .i64 k', .int .i64 n', .int .i64 g', .int .i64 z', .int .i64 sg', .int .i64 t', .int .i64 b', .int .i64 l'] rfl rfl 47 _ HN.out size_shape rfl (by simp [Value.oneCell']) ?_; rw [← HW.out]))
    go_ret
    exact ⟨by simp [hE], HGG.out⟩

end Go.Proofs.Ytfboddnpkaiifaa
