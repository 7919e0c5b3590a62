/- Regions that append: what they may count on. -/
import Derived.Test.YthemlaibjchjpaaLists
import Derived.Test.YthemlaibjchjpaaCh
import Derived.Test.YthemlaibjchjpaaRegX
import Derived.Test.YthemlaibjchjpaaRegE
import Derived.Laws.MakeOwn
namespace Go.Proofs.Ythemlaibjchjpaa
open Go.RowKit

theorem clo_ch (S : Nat → Prop) (w0 : World) : Clo (fun u => Ch S w0 u) := fun _ _ h g => h.then g
theorem wp_skip_op {P : Program} {o : Oper} {a : Act} {w w1 : World} {K : Act → World → Prop} {Q : Exit → Act → World → Prop} (h : (execOp a.eval o).run P w = .ok .skip w1) (hk : K (a.put o.dst undef) w1) : o.wp P a w K Q := by
  unfold Oper.wp
  rw [h, Oper.upon_skip]
  exact hk
/-- what a region may count on round an append: of what was there the one row alone may have changed, and it still begins as it did -/
def AppS (w0 : World) (base : Nat) (e : TypeId) (a : Option Addr) (n c : Nat) (xs : List Value) (u : World) : Prop := Ch (In a c) w0 u ∧ Own u base e 1 a n c xs
theorem clo_app (w0 : World) (base : Nat) (e : TypeId) (a : Option Addr) (n c : Nat) (xs : List Value) : Clo (AppS w0 base e a n c xs) := fun _ _ h g => ⟨h.1.then g, Own.ch h.2 (Ch.ofNone g (fun _ => False)) (fun _ _ _ h => h)⟩
theorem clo_and {S T : World → Prop} (h : Clo S) (k : Clo T) : Clo (fun u => S u ∧ T u) := fun u v hs hg => ⟨h u v hs.1 hg, k u v hs.2 hg⟩
theorem clo_row (g : Nat) (t : TypeId) (cs : Array Value) : Clo (fun u => Row u g t cs) := fun _ _ h hg => h.grown hg
theorem own_behind {w w1 : World} {base : Nat} {e : TypeId} {a a2 : Option Addr} {n c c2 : Nat} {xs ys : List Value} (h : Own w base e 1 a n c xs) (h1 : Own w1 base e 1 a2 (n + 1) c2 (xs ++ ys)) (hg : GrewP w w1 a c a2 c2) : Own w1 base e 1 a n c xs := by
  rcases hg with ⟨g, rfl, rfl, hc, rfl, hg⟩ | ⟨g, _, _, hg⟩
  · rcases h1.2 with ⟨h0, _⟩ | ⟨g', cur, ha, hb, hh, hn, hm, hs, ht⟩
    · omega
    · refine ⟨h.1, .inr ⟨g', cur, ha, hb, hh, by omega, hm, hs, ?_⟩⟩
      have h2 := congrArg (List.take (n * 1)) ht
      rw [List.take_take, Nat.min_eq_left (by omega)] at h2
      rw [h2, List.take_left' h.1]
  · exact Own.ch h (Ch.ofNone hg (fun _ => False)) (fun _ _ _ h => h)
theorem row_in {w : World} {g : Nat} {t : TypeId} {cs : Array Value} (h : Row w g t cs) {base : Nat} {e : TypeId} {size : Nat} {a : Option Addr} {n c : Nat} {xs : List Value} (ho : Own w base e size a n c xs) (hne : t ≠ e) : ¬ In a c g := by
  rintro ⟨hc, ha⟩
  rcases ho.2 with ⟨_, h0⟩ | ⟨g', cur, ha', _, hh, _⟩
  · omega
  rw [ha] at ha'
  injection ha' with ha'; injection ha' with ha'
  subst ha'
  have h' : w.heap[g]? = some (.cells cs t (0, 0)) := h
  rw [h'] at hh
  injection hh with hh
  injection hh with _ h2 _
  exact hne h2
theorem run_app_op {P : Program} (w w1 : World) (ev : Operand → Value) {o : Oper} {t : TypeId} (s x : Operand) (ho : o.op = .call { callee := .builtin .append, args := #[s, x], argTypes := #[t, t] }) (v : Value) (h : (Builtin.append_ #[t, t] o.type #[ev s, ev x]).run P w = .ok v w1) : (execOp ev o).run P w = .ok (.value v) w1 := by
  unfold execOp
  simp only [ho, resolve, invoke, builtin, Sem.run_bind, Sem.run_pure, Result.andThen_ok, List.map_toArray, List.map_cons, List.map_nil, h]

/-- an append that has room stays where it is -/
theorem run_app_room {P : Program} (w : World) {t ty e : TypeId} {z : Value} {size bytes : Nat} (H : El P t e z size bytes) {base : Nat} {a : Option Addr} {n c : Nat} {xs : List Value} (hown : Own w base e size a n c xs)
    (ad : Addr) (m c2 : Nat) (news : List Value) (hl : news.length = m * size) (hnews : ∀ j u, news[j]? = some u → w.cell? (ad.add j) = some u) (h1 : ∀ u ∈ news, u.oneCell' = true) (hm : 0 < m) (hroom : n + m ≤ c) :
    ∃ w1, (Builtin.append_ #[t, t] ty #[.slice a n c, .slice (some ad) m c2]).run P w = .ok (.slice a (n + m) c) w1 ∧ Own w1 base e size a (n + m) c (xs ++ news) ∧ GrewP w w1 a c a c := by
  obtain ⟨ht, ⟨i, hi, hz, rfl, rfl⟩, hzs, hsz⟩ := H
  have hlen : (xs ++ news).length = (n + m) * i.size := by rw [List.length_append, hown.1, hl, Nat.add_mul]
  rcases hown.2 with ⟨rfl, rfl⟩ | ⟨g, cur, rfl, hbg, hg, hnc, hcm, hcs, htake⟩
  · omega
  · have hfit : n * i.size + news.length ≤ cur.size := by rw [hl, hcs, ← Nat.add_mul]; exact Nat.mul_le_mul_right _ hroom
    have hr := run_append_room (P := P) w t ty e i ht hi g n c cur hg ad m c2 news hl hnews h1 hroom hfit
    refine ⟨_, hr, ⟨hlen, .inr ⟨g, _, rfl, hbg, setRow_heap w g cur _ e _ hg, hroom, hcm, ?_, ?_⟩⟩, .inl ⟨g, rfl, rfl, by omega, rfl, ⟨rfl, rfl, rfl, by simp, fun k _ hk => setRow_other w g k _ (fun e => hk (by simp [e]))⟩⟩⟩
    · simp only [List.size_toArray, List.length_append, List.length_take, List.length_drop, Array.length_toList]
      omega
    · rw [htake, ← hlen]
      exact List.take_left
/-- room that is made, empty as yet -/
theorem wpList_mkRoom {P : Program} {ops : Array Oper} {rest : List Oper} {o : Oper} {a : Act} {w : World} {Q : Exit → Act → World → Prop} {t e : TypeId} {z : Value} {bytes : Nat} (H : El P t e z 1 bytes) (hg : o.guard = none) (l c : Operand) (hop : o.op = Op.makeSlice t l c)
    (n : Nat) (hl : a.eval l = .int .i64 0) (hc : a.eval c = .int .i64 (n : Int)) (hn : bytes * n ≤ 281474976710656) (hm : n ≤ maxLen)
    (h : ∀ W, W.heap.size = w.heap.size + 1 → w.grownBy W none → Own W w.heap.size e 1 (some ⟨w.heap.size, 0, none⟩) 0 n [] → wpList P ops Q rest (a.put o.dst (.slice (some ⟨w.heap.size, 0, none⟩) 0 n)) W) :
    wpList P ops Q (o :: rest) a w := by
  obtain ⟨ht, ⟨i, hi, hz, hs, rfl⟩, hzs, hsz⟩ := H
  have hm' : (n : Int) ≤ 9223372036854775807 := by simp only [maxLen] at hm; omega
  have hb' : (i.bytes : Int) * (n : Int) ≤ 281474976710656 := by
    have h : ((i.bytes * n : Nat) : Int) ≤ 281474976710656 := by omega
    rwa [Int.natCast_mul] at h
  have hrun := run_make (P := P) w t e i z ht hi hz .i64 .i64 0 n (Int.le_refl _) (by omega) hb' hm'
  simp only [Int.toNat_zero, Int.toNat_natCast, hs, Nat.mul_one] at hrun
  refine wpList_plain hg fun K hK' => ?_
  unfold Oper.wp
  simp [execOp, hop, hl, hc, hrun, Result.andThen]
  exact hK' _ _ (h _ (by simp) (World.grownBy_alloc w _ none) ⟨rfl, .inr ⟨w.heap.size, _, rfl, Nat.le_refl _, heap_alloc_new w _, Nat.zero_le _, hm, by rw [size_madeCells, Nat.mul_one], rfl⟩⟩)

end Go.Proofs.Ythemlaibjchjpaa
