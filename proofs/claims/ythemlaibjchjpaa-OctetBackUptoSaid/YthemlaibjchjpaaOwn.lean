/- Rows that the call owns, and the laws of append over them: an append of any cells; an append of one value. -/
import Derived.Test.YthemlaibjchjpaaBase
namespace Go.Proofs.Ythemlaibjchjpaa
open Go.RowKit

/-- what the program's table has of a slice type and its elements -/
structure El (P : Program) (t e : TypeId) (z : Value) (size bytes : Nat) : Prop where
  slice : P.underlying t = some (.slice e)
  info : ∃ i, P.info? e = some i ∧ i.zero = some z ∧ i.size = size ∧ i.bytes = bytes
  zs : z.cells.size = size
  pos : 0 < size

/-- the value '.slice a n c' owns the cells xs: it has no room at all, or it begins at the head of a block from 'base' on -/
def Own (w : World) (base : Nat) (e : TypeId) (size : Nat) (a : Option Addr) (n c : Nat) (xs : List Value) : Prop :=
  xs.length = n * size ∧ ((n = 0 ∧ c = 0) ∨
    ∃ g cur, a = some ⟨g, 0, none⟩ ∧ base ≤ g ∧ w.heap[g]? = some (.cells cur e (0, 0)) ∧ n ≤ c ∧ c ≤ maxLen ∧ cur.size = c * size ∧ cur.toList.take (n * size) = xs)

theorem Own.nil (w : World) (base : Nat) (e : TypeId) (size : Nat) (a : Option Addr) : Own w base e size a 0 0 [] := ⟨by simp, .inl ⟨rfl, rfl⟩⟩

theorem Own.cap {w : World} {base : Nat} {e : TypeId} {size : Nat} {a : Option Addr} {n c : Nat} {xs : List Value} (h : Own w base e size a n c xs) : n ≤ c ∧ c ≤ maxLen := by
  rcases h.2 with ⟨h0, h1⟩ | ⟨g, cur, ha, hb, hh, hn, hm, _⟩
  · subst h0; subst h1; unfold maxLen; omega
  · exact ⟨hn, hm⟩

theorem Own.block {w : World} {base : Nat} {e : TypeId} {size : Nat} {a : Option Addr} {n c : Nat} {xs : List Value} (h : Own w base e size a n c xs) (hc : 0 < c) : ∃ g, a = some ⟨g, 0, none⟩ ∧ base ≤ g ∧ g < w.heap.size := by
  rcases h.2 with ⟨_, h0⟩ | ⟨g, cur, ha, hb, hh, _⟩
  · omega
  · exact ⟨g, ha, hb, (Array.getElem?_eq_some_iff.1 hh).1⟩

/-- what is owned stays owned where its block stands -/
theorem Own.kept' {w w' : World} {base : Nat} {e : TypeId} {size : Nat} {a : Option Addr} {n c : Nat} {xs : List Value} (h : Own w base e size a n c xs) (hk : 0 < c → ∀ g, a = some ⟨g, 0, none⟩ → g < w.heap.size → w'.heap[g]? = w.heap[g]?) : Own w' base e size a n c xs := by
  refine ⟨h.1, ?_⟩
  rcases h.2 with h0 | ⟨g, cur, ha, hb, hh, hn, r⟩
  · exact .inl h0
  · by_cases hc : 0 < c
    · exact .inr ⟨g, cur, ha, hb, (hk hc g ha (Array.getElem?_eq_some_iff.1 hh).1).trans hh, hn, r⟩
    · exact .inl ⟨by omega, by omega⟩
theorem Own.kept {w w' : World} {base : Nat} {e : TypeId} {size : Nat} {a : Option Addr} {n c : Nat} {xs : List Value} (h : Own w base e size a n c xs) (hk : ∀ g, a = some ⟨g, 0, none⟩ → g < w.heap.size → w'.heap[g]? = w.heap[g]?) : Own w' base e size a n c xs :=
  h.kept' fun _ => hk

theorem Own.mono {w : World} {base base' : Nat} {e : TypeId} {size : Nat} {a : Option Addr} {n c : Nat} {xs : List Value} (h : Own w base e size a n c xs) (hb : base' ≤ base) : Own w base' e size a n c xs := by
  refine ⟨h.1, ?_⟩
  rcases h.2 with h0 | ⟨g, cur, ha, hbg, r⟩
  · exact .inl h0
  · exact .inr ⟨g, cur, ha, by omega, r⟩

/-- the cells of what is owned -/
theorem Own.cell {w : World} {base : Nat} {e : TypeId} {size : Nat} {a : Option Addr} {n c : Nat} {xs : List Value} (h : Own w base e size a n c xs) (k : Nat) (hk : k < xs.length) : ∃ g, a = some ⟨g, 0, none⟩ ∧ base ≤ g ∧ g < w.heap.size ∧ w.cell? ⟨g, k, none⟩ = some xs[k] ∧ w.frozen? ⟨g, k, none⟩ = false := by
  rcases h.2 with ⟨h0, _⟩ | ⟨g, cur, ha, hb, hh, hn, hm, hs, ht⟩
  · have := h.1; subst h0; simp at this; subst this; simp at hk
  · refine ⟨g, ha, hb, (Array.getElem?_eq_some_iff.1 hh).1, ?_, ?_⟩
    · have hl := h.1
      have e1 : (cur.toList.take (n * size))[k]? = xs[k]? := by rw [ht]
      rw [List.getElem?_take, if_pos (by omega), List.getElem?_eq_getElem hk] at e1
      simp only [World.cell?, hh]
      simpa using e1
    · simp [World.frozen?, hh]

/-- a store into what is owned -/
theorem Own.set {w : World} {base : Nat} {e : TypeId} {size : Nat} {g n c : Nat} {xs : List Value} (h : Own w base e size (some ⟨g, 0, none⟩) n c xs) (k : Nat) (hk : k < xs.length) (u : Value) : Own (w.setCell ⟨g, k, none⟩ u) base e size (some ⟨g, 0, none⟩) n c (xs.set k u) := by
  refine ⟨by rw [List.length_set]; exact h.1, ?_⟩
  rcases h.2 with ⟨h0, _⟩ | ⟨g', cur, ha, hb, hh, hn, hm, hs, ht⟩
  · have := h.1; subst h0; simp at this; subst this; simp at hk
  · obtain rfl : g = g' := by simpa using ha
    have hl := h.1
    refine .inr ⟨g, cur.setIfInBounds k u, rfl, hb, ?_, hn, hm, by simpa using hs, ?_⟩
    · simp only [World.setCell, Array.getElem?_modify, ↓reduceIte, hh, Option.map_some]
      simp
    · rw [Array.toList_setIfInBounds, List.take_set, ht]

theorem grownBy_setCell (w : World) (g k : Nat) (u : Value) : w.grownBy (w.setCell ⟨g, k, none⟩ u) (some g) :=
  ⟨rfl, rfl, rfl, by simp [World.setCell], fun i _ hr => Below.heap_setCell _ _ _ _ (by simpa using hr)⟩

/-- an array in a block of its own, its cells told -/
theorem own_array (w : World) (e : TypeId) (cs : Array Value) (n : Nat) (hn : cs.size = n) (hm : n ≤ maxLen) : Own (w.alloc (.cells cs e)) w.heap.size e 1 (some ⟨w.heap.size, 0, none⟩) n n cs.toList := by
  subst hn
  exact ⟨by simp, .inr ⟨w.heap.size, _, rfl, Nat.le_refl _, heap_alloc_new w _, Nat.le_refl _, hm, by simp, by rw [Nat.mul_one, List.take_of_length_le (by simp)]⟩⟩
/-- the whole of a block that is owned -/
theorem Own.whole {w : World} {base : Nat} {e : TypeId} {g n : Nat} {xs : List Value} (h : Own w base e 1 (some ⟨g, 0, none⟩) n n xs) (hn : 0 < n) : w.heap[g]? = some (.cells xs.toArray e (0, 0)) := by
  rcases h.2 with ⟨h0, _⟩ | ⟨g', cur, ha, hb, hh, hnn, hm, hs, ht⟩
  · omega
  · injection ha with ha; injection ha with ha
    subst ha
    rw [hh, ← ht, List.take_of_length_le (by simp; omega)]
theorem grownBy_setRow (w : World) (g : Nat) (cs : Array Value) : w.grownBy (w.setRow g cs) (some g) :=
  ⟨rfl, rfl, rfl, by simp, fun k _ hk => setRow_other w g k _ (fun e => hk (by simp [e]))⟩

/-- what an append has done to the world and the address: nothing; written into its own block; a new block -/
def GrewP (w w1 : World) (a : Option Addr) (c : Nat) (a' : Option Addr) (c' : Nat) : Prop :=
  (∃ g, a' = some ⟨g, 0, none⟩ ∧ a = a' ∧ 0 < c ∧ c' = c ∧ w.grownBy w1 (some g)) ∨ (∃ g, a' = some ⟨g, 0, none⟩ ∧ w.heap.size ≤ g ∧ w.grownBy w1 none)
def Grew (w w1 : World) (a : Option Addr) (c : Nat) (a' : Option Addr) (c' : Nat) : Prop := (a' = a ∧ c' = c ∧ w1 = w) ∨ GrewP w w1 a c a' c'
theorem GrewP.grew {w w1 : World} {a : Option Addr} {c : Nat} {a' : Option Addr} {c' : Nat} (h : GrewP w w1 a c a' c') : Grew w w1 a c a' c' := .inr h

theorem grownBy_trans {a b c : World} {row : Option Nat} (h : a.grownBy b row) (k : b.grownBy c row) : a.grownBy c row :=
  ⟨k.os.trans h.os, k.tape.trans h.tape, k.output.trans h.output, Nat.le_trans h.size k.size, fun i hi hr => (k.block i (Nat.lt_of_lt_of_le hi h.size) hr).trans (h.block i hi hr)⟩
theorem grownBy_none {a b : World} {row : Option Nat} (h : a.grownBy b row) (hr : ∀ g, row = some g → a.heap.size ≤ g) : a.grownBy b none :=
  ⟨h.os, h.tape, h.output, h.size, fun i hi _ => h.block i hi (fun e => by have := hr i e.symm; omega)⟩
theorem grownBy_some {a b : World} (h : a.grownBy b none) (row : Option Nat) : a.grownBy b row :=
  ⟨h.os, h.tape, h.output, h.size, fun i hi _ => h.block i hi (by simp)⟩
theorem grownBy_old {a b c : World} {g : Nat} (h : a.grownBy b none) (k : b.grownBy c (some g)) (hg : a.heap.size ≤ g) : a.grownBy c none :=
  grownBy_none (grownBy_trans (grownBy_some h (some g)) k) (by rintro g' ⟨⟩; exact hg)
theorem grownBy_al {a b : World} (h : a.grownBy b none) (o : Obj) : a.grownBy (b.alloc o) none := grownBy_trans h (World.grownBy_alloc b o none)
theorem grownBy_dr {a b : World} (h : a.grownBy b none) (n : Nat) : a.grownBy (b.drewN n) none := ⟨h.os, h.tape, h.output, h.size, h.block⟩
theorem grownBy_drewN (w : World) (n : Nat) (row : Option Nat) : w.grownBy (w.drewN n) row := ⟨rfl, rfl, rfl, Nat.le_refl _, fun _ _ _ => rfl⟩

theorem Grew.size {w w1 : World} {a : Option Addr} {c : Nat} {a' : Option Addr} {c' : Nat} (h : Grew w w1 a c a' c') : w.heap.size ≤ w1.heap.size := by
  rcases h with ⟨_, _, rfl⟩ | ⟨g, _, _, _, _, h⟩ | ⟨g, _, _, h⟩
  · exact Nat.le_refl _
  · exact h.size
  · exact h.size

/-- of what lay before the base nothing has turned -/
theorem Grew.grown {w0 w w1 : World} {base : Nat} {e : TypeId} {size : Nat} {a : Option Addr} {n c : Nat} {xs : List Value} {a' : Option Addr} {c' : Nat} (h : Grew w w1 a c a' c') (ho : Own w base e size a n c xs) (hg : w0.grownBy w none) (hb : w0.heap.size ≤ base) : w0.grownBy w1 none := by
  rcases h with ⟨_, _, rfl⟩ | ⟨g, ha, rfl, hc, _, h⟩ | ⟨g, _, _, h⟩
  · exact hg
  · obtain ⟨g', he, hb', _⟩ := ho.block hc
    rw [ha] at he
    obtain rfl : g = g' := by simpa using he
    exact grownBy_old hg h (by omega)
  · exact grownBy_trans hg h

/-- another row stays -/
theorem Grew.other {w w1 : World} {a : Option Addr} {c : Nat} {a' : Option Addr} {c' : Nat} (h : Grew w w1 a c a' c') (k : Nat) (hk : k < w.heap.size) (hne : ∀ g, 0 < c → a = some ⟨g, 0, none⟩ → k ≠ g) : w1.heap[k]? = w.heap[k]? := by
  rcases h with ⟨_, _, rfl⟩ | ⟨g, ha, rfl, hc, _, h⟩ | ⟨g, _, _, h⟩
  · rfl
  · exact h.block k hk (by have := hne g hc ha; simpa using this)
  · exact h.block k hk (by simp)

section
variable {P : Program}

theorem run_app (w : World) {t ty e : TypeId} {z : Value} {size bytes : Nat} (H : El P t e z size bytes) {base : Nat} {a : Option Addr} {n c : Nat} {xs : List Value} (hown : Own w base e size a n c xs)
    (ad : Addr) (m c2 : Nat) (news : List Value) (hl : news.length = m * size) (hnews : ∀ j u, news[j]? = some u → w.cell? (ad.add j) = some u) (h1 : ∀ u ∈ news, u.oneCell' = true)
    (h63 : n + m ≤ maxLen) (hbytes : (n + m) * bytes ≤ 140737488355328) (hbase : base ≤ w.heap.size) (hnil : a = none → c = 0 → n = 0 → True) (hm : 0 < m) :
    ∃ g c' w1, (Builtin.append_ #[t, t] ty #[.slice a n c, .slice (some ad) m c2]).run P w = .ok (.slice (some ⟨g, 0, none⟩) (n + m) c') w1 ∧ Own w1 base e size (some ⟨g, 0, none⟩) (n + m) c' (xs ++ news) ∧ GrewP w w1 a c (some ⟨g, 0, none⟩) c' := by
  obtain ⟨ht, ⟨i, hi, hz, rfl, rfl⟩, hzs, hsz⟩ := H
  have hsmall : n + m ≤ 9223372036854775807 := by simp only [maxLen] at h63; omega
  have hlen : (xs ++ news).length = (n + m) * i.size := by rw [List.length_append, hown.1, hl, Nat.add_mul]
  have grown : ∀ (old : Nat), old < n + m →
      Own (w.drew.alloc (.cells (xs.toArray ++ news.toArray ++ Builtin.zeroCells z.cells (grownCap w (n + m) old e - (n + m))) e)) base e i.size
        (some ⟨w.heap.size, 0, none⟩) (n + m) (grownCap w (n + m) old e) (xs ++ news) ∧
      w.grownBy (w.drew.alloc (.cells (xs.toArray ++ news.toArray ++ Builtin.zeroCells z.cells (grownCap w (n + m) old e - (n + m))) e)) none := by
    intro old ho
    have hge := grownCap_ge w (n + m) old e
    have hcm : grownCap w (n + m) old e ≤ maxLen := grownCap_le_maxLen w (n + m) old e h63
    refine ⟨⟨hlen, .inr ⟨w.heap.size, _, rfl, hbase, heap_alloc_new w.drew _, hge, hcm, ?_, ?_⟩⟩, ⟨rfl, rfl, rfl, by simp, fun k hk _ => Below.heap_alloc w.drew _ k hk⟩⟩
    · simp only [Array.size_append, List.size_toArray, size_zeroCells, hzs, hown.1, hl, ← Nat.add_mul]
      congr 1
      omega
    · simp only [Array.toList_append, List.append_assoc]
      rw [← List.append_assoc, ← hlen]
      exact List.take_left
  rcases hown.2 with ⟨rfl, rfl⟩ | ⟨g, cur, rfl, hbg, hg, hnc, hcm, hcs, htake⟩
  · have hx : xs = [] := List.eq_nil_of_length_eq_zero (by simpa using hown.1)
    subst hx
    have hgr := grown 0 (by omega)
    cases a with
    | none =>
      have hr := run_append_nil (P := P) w t ty e i z ht hi hz ad m c2 news hl hnews hm (by omega) (by have hb := hbytes; simp only [Nat.zero_add] at hb; omega)
      simp only [Nat.zero_add, List.nil_append, Array.empty_append] at hgr ⊢
      exact ⟨_, _, _, hr, hgr.1, .inr ⟨_, rfl, Nat.le_refl _, hgr.2⟩⟩
    | some b =>
      have hr := run_append_grow (P := P) w t ty e i z ht hi hz b 0 0 [] (by simp) (by simp) ad m c2 news hl hnews (by omega) (by omega) (growslice_fits (by omega) hbytes)
      exact ⟨_, _, _, hr, hgr.1, .inr ⟨_, rfl, Nat.le_refl _, hgr.2⟩⟩
  · by_cases hroom : n + m ≤ c
    · have hfit : n * i.size + news.length ≤ cur.size := by rw [hl, hcs, ← Nat.add_mul]; exact Nat.mul_le_mul_right _ hroom
      have hr := run_append_room (P := P) w t ty e i ht hi g n c cur hg ad m c2 news hl hnews h1 hroom hfit
      refine ⟨_, _, _, hr, ⟨hlen, .inr ⟨g, _, rfl, hbg, setRow_heap w g cur _ e _ hg, hroom, hcm, ?_, ?_⟩⟩, .inl ⟨g, rfl, rfl, by omega, rfl, ⟨rfl, rfl, rfl, by simp, fun k _ hk => setRow_other w g k _ (fun e => hk (by simp [e]))⟩⟩⟩
      · simp only [List.size_toArray, List.length_append, List.length_take, List.length_drop, Array.length_toList]
        omega
      · rw [htake, ← hlen]
        exact List.take_left
    · have holds : ∀ j u, xs[j]? = some u → w.cell? ((⟨g, 0, none⟩ : Addr).add j) = some u := by
        intro j u hu
        have hadd : (⟨g, 0, none⟩ : Addr).add j = ⟨g, j, none⟩ := by unfold Addr.add; split <;> simp_all
        obtain ⟨hj, rfl⟩ := List.getElem?_eq_some_iff.1 hu
        obtain ⟨g', e1, _, _, hc, _⟩ := hown.cell j hj
        obtain rfl : g = g' := by simpa using e1
        rw [hadd]; exact hc
      have hr := run_append_grow (P := P) w t ty e i z ht hi hz ⟨g, 0, none⟩ n c xs hown.1 holds ad m c2 news hl hnews (by omega) (by omega) (growslice_fits (by omega) hbytes)
      have hgr := grown c (by omega)
      exact ⟨_, _, _, hr, hgr.1, .inr ⟨_, rfl, Nat.le_refl _, hgr.2⟩⟩

/-- append of cells that lie somewhere (there is at least one) -/
theorem wpList_app {w : World} {ops : Array Oper} {rest : List Oper} {o : Oper} {act : Act} {Q : Exit → Act → World → Prop} {t e : TypeId} {z : Value} {size bytes : Nat} (H : El P t e z size bytes)
    (hgd : o.guard = none) (s x : Operand) (ho : o.op = .call { callee := .builtin .append, args := #[s, x], argTypes := #[t, t] })
    {base : Nat} {a : Option Addr} {n c : Nat} {xs : List Value} (hs : act.eval s = .slice a n c) (hown : Own w base e size a n c xs)
    (ad : Addr) (m c2 : Nat) (news : List Value) (hx : act.eval x = .slice (some ad) m c2) (hl : news.length = m * size) (hnews : ∀ j u, news[j]? = some u → w.cell? (ad.add j) = some u) (h1 : ∀ u ∈ news, u.oneCell' = true)
    (h63 : n + m ≤ maxLen) (hbytes : (n + m) * bytes ≤ 140737488355328) (hbase : base ≤ w.heap.size) (hm : 0 < m)
    (h : ∀ g c' w1, Own w1 base e size (some ⟨g, 0, none⟩) (n + m) c' (xs ++ news) → GrewP w w1 a c (some ⟨g, 0, none⟩) c' → wpList P ops Q rest (act.put o.dst (.slice (some ⟨g, 0, none⟩) (n + m) c')) w1) : wpList P ops Q (o :: rest) act w := by
  refine wpList_plain hgd fun K hK => ?_
  obtain ⟨g, c', w1, hr, h2, h3⟩ := run_app (P := P) (ty := o.type) w H hown ad m c2 news hl hnews h1 h63 hbytes hbase (fun _ _ _ => trivial) hm
  unfold Oper.wp execOp
  simp only [ho, resolve, invoke, builtin, Sem.run_bind, Sem.run_pure, Result.andThen_ok, List.map_toArray, List.map_cons, List.map_nil, hs, hx, hr]
  exact hK _ _ (h g c' w1 h2 h3)

/-- append of one value of one cell: the translation has just laid it in a block of its own -/
theorem wpList_push {w : World} {ops : Array Oper} {rest : List Oper} {o : Oper} {act : Act} {Q : Exit → Act → World → Prop} {t e : TypeId} {z : Value} {bytes : Nat} (H : El P t e z 1 bytes)
    (hgd : o.guard = none) (s x : Operand) (ho : o.op = .call { callee := .builtin .append, args := #[s, x], argTypes := #[t, t] })
    {base : Nat} {a : Option Addr} {n c : Nat} {xs : List Value} (hs : act.eval s = .slice a n c) (hown : Own w base e 1 a n c xs)
    (u : Value) (hx : act.eval x = .slice (some ⟨w.heap.size, 0, none⟩) 1 1) (h1 : u.oneCell' = true)
    (h63 : n + 1 ≤ maxLen) (hbytes : (n + 1) * bytes ≤ 140737488355328) (hbase : base ≤ w.heap.size)
    (h : ∀ g c' w1, Own w1 base e 1 (some ⟨g, 0, none⟩) (n + 1) c' (xs ++ [u]) → GrewP w w1 a c (some ⟨g, 0, none⟩) c' → wpList P ops Q rest (act.put o.dst (.slice (some ⟨g, 0, none⟩) (n + 1) c')) w1) : wpList P ops Q (o :: rest) act (w.alloc (.cells #[u] e)) := by
  have hga : w.grownBy (w.alloc (.cells #[u] e)) none := World.grownBy_alloc w _ none
  refine wpList_app H hgd s x ho hs (hown.kept fun g _ hg => hga.block g hg (by simp)) ⟨w.heap.size, 0, none⟩ 1 1 [u] hx (by simp) (cell_one_new _ _ _) (by simpa using h1) h63 hbytes (by have := hga.size; omega) (by omega) ?_
  intro g c' w1 h2 h3
  refine h g c' w1 h2 ?_
  rcases h3 with ⟨g', e1, e2, hc, hcc, hg⟩ | ⟨g', e1, hs', hg⟩
  · exact .inl ⟨g', e1, e2, hc, hcc, grownBy_trans (grownBy_some hga _) hg⟩
  · exact .inr ⟨g', e1, by have := hga.size; omega, grownBy_trans hga hg⟩
end

end Go.Proofs.Ythemlaibjchjpaa
