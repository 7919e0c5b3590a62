/- Helpers and contracts of the proofs over this seat: CallAlloc. Each states what a function of the program answers, or is plain Lean; its conditions stand in each statement. -/
import Derived.Test.YtfboddnpkaiifaaPtAA
import Derived.Test.YtfboddnpkaiifaaPtAB
set_option linter.unusedVariables false
/- A region that draws its order, in which a call that tells letters and a variable's making may come up in either order. -/
namespace Go.Proofs.Ytfboddnpkaiifaa
open Go.RowKit

theorem wpX_callAlloc {P : Program} {ops : Array Oper} {Q : Exit → Act → World → Prop} {L : Nat} {X : Type} (i j : Nat) {oi oj : Oper} {S : World → Prop} {n : Nat} {listed : Array Bool} {a : Act}
    (hi : ops[i]? = some oi) (hj : ops[j]? = some oj) (hiL : (i == L) = false) (hjL : (j == L) = false) (hclo : Clo S)
    (hr : Region.ready .any ops listed = [i, j]) (hri : Region.ready .any ops (listed.setIfInBounds i true) = [j]) (hrj : Region.ready .any ops (listed.setIfInBounds j true) = [i]) (hcomm : (listed.setIfInBounds i true).setIfInBounds j true = (listed.setIfInBounds j true).setIfInBounds i true)
    (d d' : Tmp) (hdi : oi.dst = some d) (hdj : oj.dst = some d') (hdd : d ≠ d')
    (hwi : Region.wanted oi (yielded ops a.tmps) = true) (hwj : Region.wanted oj (yielded ops a.tmps) = true) (hwi2 : ∀ v, Region.wanted oi (yielded ops (a.put oj.dst v).tmps) = true) (hwj2 : ∀ v, Region.wanted oj (yielded ops (a.put oi.dst v).tmps) = true)
    {f : FuncId} {args : Array Value} (he : ∀ w, (execOp a.eval oi).run P w = .ok (.enter f args) w) (he2 : ∀ v w, (execOp (a.put oj.dst v).eval oi).run P w = .ok (.enter f args) w)
    (vi : X → Value) (T : X → World → Prop) (B : X → Nat) (top : X → Nat) (hT : ∀ x, Clo (T x)) (htp : ∀ x u, T x u → top x ≤ u.heap.size) (hc : ∀ w, S w → Calls P f args w fun e w' => ∃ x, e = .returned (vi x) ∧ w.grownBy w' none ∧ T x w' ∧ B x = w.heap.size)
    {Ty : TypeId} (ho : oj.op = .alloc Ty) {info : TypeInfo} (hinf : P.info? Ty = some info) {z : Value} (hz : info.zero = some z)
    (m : Nat) (hm : ∀ u, S u → m ≤ u.heap.size)
    (H : ∀ x b, m ≤ b → m ≤ B x → (b < B x ∨ top x ≤ b) → wpX P .any ops Q L n (fun u => S u ∧ T x u ∧ Row u b Ty z.cells) ((listed.setIfInBounds i true).setIfInBounds j true) ((a.put oi.dst (vi x)).put oj.dst (.pointer (some ⟨b, 0, none⟩)))) :
    wpX P .any ops Q L (n + 2) S listed a := by
  have hal : ∀ (act : Act) w, (execOp act.eval oj).run P w = .ok (.value (.pointer (some ⟨w.heap.size, 0, none⟩))) (w.alloc (.cells z.cells Ty)) := fun act w => run_alloc_op w act.eval ho hinf hz
  have hiL' : i ≠ L := by simpa using hiL
  have hjL' : j ≠ L := by simpa using hjL
  refine ⟨by rw [hr]; simp, fun k hk w hS => ?_⟩
  rw [hr] at hk
  simp only [List.mem_cons, List.not_mem_nil, or_false] at hk
  rcases hk with rfl | rfl
  · unfold wpOp
    simp only [hi, hwi, if_true]
    refine .inl ?_
    unfold Oper.wp
    rw [he w]
    simp only [Oper.upon]
    refine Calls.mono (hc w hS) ?_
    rintro e w' ⟨x, rfl, hg, ht, hB⟩
    simp only [if_neg hiL']
    refine ⟨fun u => S u ∧ T x u, ⟨hclo _ _ hS hg, ht⟩, fun u h => h.1, fun u v h hg => ⟨hclo _ _ h.1 hg, hT x _ _ h.2 hg⟩, ?_⟩
    refine ⟨by rw [hri]; simp, fun k2 hk2 w2 hS2 => ?_⟩
    rw [hri] at hk2
    obtain rfl : k2 = j := by simpa using hk2
    unfold wpOp
    simp only [hj, hwj2, if_true]
    refine .inl ?_
    unfold Oper.wp
    rw [hal, Oper.upon_value, if_neg hjL']
    have hg2 := World.grownBy_alloc w2 (.cells z.cells Ty) none
    exact ⟨fun u => S u ∧ T x u ∧ Row u w2.heap.size Ty z.cells, ⟨hclo _ _ hS2.1 hg2, hT x _ _ hS2.2 hg2, heap_alloc_new w2 _⟩, fun u h => ⟨h.1, h.2.1⟩, fun u v h hg => ⟨hclo _ _ h.1 hg, hT x _ _ h.2.1 hg, h.2.2.grown hg⟩, H x _ (hm _ hS2.1) (by rw [hB]; exact hm _ hS) (.inr (htp x _ hS2.2))⟩
  · unfold wpOp
    simp only [hj, hwj, if_true]
    refine .inl ?_
    unfold Oper.wp
    rw [hal, Oper.upon_value, if_neg hjL']
    have hg2 := World.grownBy_alloc w (.cells z.cells Ty) none
    refine ⟨fun u => S u ∧ Row u w.heap.size Ty z.cells, ⟨hclo _ _ hS hg2, heap_alloc_new w _⟩, fun u h => h.1, fun u v h hg => ⟨hclo _ _ h.1 hg, h.2.grown hg⟩, ?_⟩
    refine ⟨by rw [hrj]; simp, fun k2 hk2 w2 hS2 => ?_⟩
    rw [hrj] at hk2
    obtain rfl : k2 = i := by simpa using hk2
    unfold wpOp
    simp only [hi, hwi2, if_true]
    refine .inl ?_
    unfold Oper.wp
    rw [he2]
    simp only [Oper.upon]
    refine Calls.mono (hc w2 hS2.1) ?_
    rintro e w' ⟨x, rfl, hg, ht, hB⟩
    simp only [if_neg hiL']
    refine ⟨fun u => S u ∧ T x u ∧ Row u w.heap.size Ty z.cells, ⟨hclo _ _ hS2.1 hg, ht, hS2.2.grown hg⟩, fun u h => ⟨h.1, h.2.2⟩, fun u v h hg => ⟨hclo _ _ h.1 hg, hT x _ _ h.2.1 hg, h.2.2.grown hg⟩, ?_⟩
    have h := H x w.heap.size (hm _ hS) (by rw [hB]; exact hm _ hS2.1) (.inl (by rw [hB]; exact hS2.2.lt))
    rw [hcomm, hdi, hdj] at h
    rw [hdi, hdj, Act.put_comm _ _ _ (by rintro q ⟨⟩ e; injection e with e; exact hdd e)]
    exact h
end Go.Proofs.Ytfboddnpkaiifaa
