/- A region that draws its order and ends in one operation that waits for all the others (a store): whatever the order, one end. -/
import Derived.Test.YthemlaibjchjpaaRegS
namespace Go.Proofs.Ythemlaibjchjpaa
open Go.RowKit

section
variable {P : Program} {ops : Array Oper} {Q : Exit → Act → World → Prop} {md : Region.Mode} {S : World → Prop} {L : Nat}

/-- whatever order is picked, from whatever world of which S holds; number L is the last -/
def wpT (P : Program) (md : Region.Mode) (ops : Array Oper) (Q : Exit → Act → World → Prop) (S : World → Prop) (L : Nat) : Nat → Array Bool → Act → Prop
  | 0, _, _ => False
  | n + 1, listed, a => Region.ready md ops listed ≠ [] ∧
    ∀ i ∈ Region.ready md ops listed, ∀ w, S w → wpOp P ops Q i (fun a' w' => if i = L then Region.ready md ops (listed.setIfInBounds i true) = [] ∧ Q .normal a' w' else S w' ∧ wpT P md ops Q S L n (listed.setIfInBounds i true) a') a w

theorem wpT_any : ∀ (n : Nat) (listed : Array Bool) (a : Act) (w : World), wpT P md ops Q S L n listed a → S w → wpAny P md ops Q n listed a w
  | 0, _, _, _, h, _ => h.elim
  | n + 1, listed, a, w, h, hS => by
    refine ⟨fun h0 => absurd h0 h.1, fun i hi => wpOp_mono (fun a' w' h' => ?_) (h.2 i hi w hS)⟩
    by_cases hL : i = L
    · rw [if_pos hL] at h'
      exact wpAny_done h'.1 h'.2 n
    · rw [if_neg hL] at h'
      exact wpT_any n _ a' w' h'.2 h'.1

/-- what has come up has what it waited for -/
def Closed (md : Region.Mode) (ops : Array Oper) (listed : Array Bool) : Prop := ∀ (j : Nat) (o : Oper), ops[j]? = some o → listed.getD j false = true → ∀ e ∈ o.after, Region.binds md e = true → listed.getD e.on false = true
def closedB (md : Region.Mode) (ops : Array Oper) (listed : Array Bool) : Bool := (List.range ops.size).all fun j => match ops[j]? with
  | some o => !listed.getD j false || o.after.all fun e => !Region.binds md e || listed.getD e.on false
  | none => true
theorem closed_of {listed : Array Bool} (h : closedB md ops listed = true) : Closed md ops listed := by
  intro j o ho hj e he hb
  have h1 := List.all_eq_true.1 h j (List.mem_range.2 (Array.getElem?_eq_some_iff.1 ho).1)
  simp only [ho, hj, Bool.not_true, Bool.false_or] at h1
  have h2 := Array.all_eq_true_iff_forall_mem.1 h1 e he
  simpa [hb] using h2
theorem Closed.set {listed : Array Bool} (h : Closed md ops listed) {j : Nat} (hj : j ∈ Region.ready md ops listed) : Closed md ops (listed.setIfInBounds j true) := by
  intro k o ho hk e he hb
  by_cases hkj : j = k
  · subst hkj
    obtain ⟨_, o', ho', hall⟩ := mem_ready.1 hj
    rw [ho] at ho'
    injection ho' with ho'
    subst ho'
    exact getD_set_true (hall e he hb)
  · rw [getD_set_ne false hkj] at hk
    exact getD_set_true (h k o ho hk e he hb)
/-- does i come ahead of L: directly, or by one between -/
def aheadB (md : Region.Mode) (ops : Array Oper) (oL : Oper) (i : Nat) : Bool := oL.after.any (fun e => Region.binds md e && e.on == i) || oL.after.any (fun e => Region.binds md e && (match ops[e.on]? with
  | some o => o.after.any (fun f => Region.binds md f && f.on == i)
  | none => false))
theorem ahead_listed {listed : Array Bool} {oL : Oper} {i : Nat} (hc : Closed md ops listed) (h : aheadB md ops oL i = true) (hall : ∀ e ∈ oL.after, Region.binds md e = true → listed.getD e.on false = true) : listed.getD i false = true := by
  unfold aheadB at h
  rw [Bool.or_eq_true] at h
  rcases h with h | h
  · obtain ⟨e, he, hb⟩ := Array.any_eq_true'.1 h
    simp only [Bool.and_eq_true, beq_iff_eq] at hb
    rw [← hb.2]
    exact hall e he hb.1
  · obtain ⟨e, he, hb⟩ := Array.any_eq_true'.1 h
    rw [Bool.and_eq_true] at hb
    have h1 := hall e he hb.1
    have h2 := hb.2
    cases ho : ops[e.on]? with
    | none => rw [ho] at h2; cases h2
    | some o =>
      rw [ho] at h2
      obtain ⟨f, hf, hfb⟩ := Array.any_eq_true'.1 h2
      simp only [Bool.and_eq_true, beq_iff_eq] at hfb
      rw [← hfb.2]
      exact hc e.on o ho h1 f hf hfb.1
theorem wpT_first {i : Nat} {oi oL : Oper} {v : Value} (hi : ops[i]? = some oi) (hoL : ops[L]? = some oL) (hiL : i ≠ L) (hLi : aheadB md ops oL i = true) (hsel : ∀ (j : Nat) (o : Oper) cs b, ops[j]? = some o → o.op ≠ .select cs b)
    (hQ : ∀ c a w, Q (.panic c) (a.put oi.dst v) w → Q (.panic c) a w) : ∀ (n : Nat) (listed : Array Bool) (a : Act), Closed md ops listed →
      (∀ j oj, ops[j]? = some oj → j ≠ i → listed.getD j true = false → (∀ e ∈ oj.after, Region.binds md e = true → e.on ≠ i) → oi.apart ops oj = true) →
      i ∈ Region.ready md ops listed → YS P ops S oi v a → wpT P md ops Q S L n (listed.setIfInBounds i true) (a.put oi.dst v) → wpT P md ops Q S L (n + 1) listed a := by
  intro n
  induction n with
  | zero => intro listed a _ _ _ _ H; exact H.elim
  | succ n ih =>
    intro listed a hcl hfree hr hy H
    refine ⟨fun h => (by rw [h] at hr; cases hr), fun j hj w hS => ?_⟩
    obtain ⟨hjun, oj, hoj, hall⟩ := mem_ready.1 hj
    have hnot : ∀ e ∈ oj.after, Region.binds md e = true → e.on ≠ i := by
      intro e he hb heq
      have h1 := hall e he hb
      have h0 := (mem_ready.1 hr).1
      rw [heq] at h1
      rcases Nat.lt_or_ge i listed.size with h' | h'
      · simp [h'] at h0 h1; rw [h0] at h1; cases h1
      · simp [Array.getElem?_eq_none h'] at h1
    by_cases hji : j = i
    · subst hji
      refine hy.op hi hS fun w' hs => ?_
      rw [if_neg hiL]
      exact ⟨hs, H⟩
    · have hjL : j ≠ L := by
        rintro rfl
        rw [hoL] at hoj
        injection hoj with hoj
        subst hoj
        have h1 := ahead_listed hcl hLi hall
        have h0 := (mem_ready.1 hr).1
        rcases Nat.lt_or_ge i listed.size with h' | h'
        · simp [h'] at h0 h1; rw [h0] at h1; cases h1
        · simp [Array.getElem?_eq_none h'] at h1
      have h1 := H.2 j (ready_mono hj hji) w hS
      have h2 := wpS_put hoj (hfree j oj hoj hji hjun hnot) (fun cs b => hsel i oi cs b hi) (fun cs b => hsel j oj cs b hoj) hQ hy h1
      refine wpOp_mono (fun a' w' h3 => ?_) h2
      rw [if_neg hjL] at h3 ⊢
      refine ⟨h3.2.1, ih (listed.setIfInBounds j true) a' (hcl.set hj) (fun k ok hk hki hun hno => ?_) (ready_mono hr (Ne.symm hji)) h3.1 ?_⟩
      · refine hfree k ok hk hki ?_ hno
        by_cases hjk : j = k
        · subst hjk; exact hjun
        · rw [getD_set_ne true hjk] at hun; exact hun
      · rw [Array.setIfInBounds_comm _ _ hji]
        exact h3.2.2

/-- number i first -/
theorem wpT_take (i : Nat) {oi oL : Oper} {v : Value} {n : Nat} {listed : Array Bool} {a : Act} (hi : ops[i]? = some oi) (hoL : ops[L]? = some oL) (hiL : (i == L) = false) (hLi : aheadB md ops oL i = true) (hcl : closedB md ops listed = true)
    (hs : Region.noSelect ops = true) (hf : Region.free md ops listed i = true) (hr : (Region.ready md ops listed).contains i = true)
    (hQ : ∀ c a w, Q (.panic c) (a.put oi.dst v) w → Q (.panic c) a w) (hy : YS P ops S oi v a)
    (h : wpT P md ops Q S L n (listed.setIfInBounds i true) (a.put oi.dst v)) : wpT P md ops Q S L (n + 1) listed a :=
  wpT_first hi hoL (by simpa using hiL) hLi (Region.noSelect_spec hs) hQ n listed a (closed_of hcl) (Region.free_spec hi hf) (by simpa using hr) hy h
/-- the last one, carried out -/
theorem wpT_last {oL : Oper} {n : Nat} {listed : Array Bool} {a : Act} (hoL : ops[L]? = some oL) (hr : Region.ready md ops listed = [L]) (hr2 : Region.ready md ops (listed.setIfInBounds L true) = []) (hw : Region.wanted oL (yielded ops a.tmps) = true)
    (h : ∀ w, S w → ∀ K : Act → World → Prop, (∀ a' w', Q .normal a' w' → K a' w') → oL.wp P a w K Q) : wpT P md ops Q S L (n + 1) listed a := by
  refine ⟨by rw [hr]; simp, fun i hi w hS => ?_⟩
  rw [hr] at hi
  obtain rfl : i = L := by simpa using hi
  unfold wpOp
  simp only [hoL, hw, if_true]
  exact .inl (h w hS _ fun a' w' hq => ⟨hr2, hq⟩)
theorem wp_regionT (S : World → Prop) (L : Nat) {id : Nat} {a : Act} {w : World} (hm : P.follows .mixedOrders = true) (hS : S w.drew)
    (h : wpT P .any ops Q S L ops.size (Array.replicate ops.size false) a) : (Code.region id ops true).wp P Q a w :=
  wp_region_any hm (wpT_any _ _ _ _ h hS)
end

end Go.Proofs.Ythemlaibjchjpaa
