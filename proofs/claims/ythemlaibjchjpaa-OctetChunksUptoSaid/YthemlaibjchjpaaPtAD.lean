/- Helpers and contracts of the proofs over this seat: RegS, RegT, RegX, RegE, Mid, RefUnfr, AppZeros, Concat, AppS, LentLists. Each states what a function of the program answers, or is plain Lean; its conditions stand in each statement. -/
import Derived.Deep.RegionHeld3
import Derived.Lib.AppendZerosOnto
import Derived.Laws.MakeOwn
import Derived.Test.YthemlaibjchjpaaPtAA
import Derived.Test.YthemlaibjchjpaaPtAB
set_option linter.unusedVariables false
/- A region that draws its order, all of whose operations come to one value each while a condition on the world stands: whatever the order, one end. -/
namespace Go.Proofs.Ythemlaibjchjpaa
open Go.RowKit

section
variable {P : Program} {ops : Array Oper} {Q : Exit → Act → World → Prop} {md : Region.Mode} {S : World → Prop}

/-- what an operation comes to: the value v, in a world of which S holds -/
def OutS (P : Program) (S : World → Prop) (v : Value) : Result Next → Prop
  | .ok (.value u) w' => u = v ∧ S w'
  | .ok .skip w' => v = undef ∧ S w'
  | .ok (.enter f args) w' => Calls P f args w' fun e w'' => e = .returned v ∧ S w''
  | _ => False

def YS (P : Program) (ops : Array Oper) (S : World → Prop) (o : Oper) (v : Value) (a : Act) : Prop :=
  (Region.wanted o (yielded ops a.tmps) = true ∧ ∀ w, S w → OutS P S v ((execOp a.eval o).run P w)) ∨
  (Region.wanted o (yielded ops a.tmps) = false ∧ v = undef)

theorem YS.of {o : Oper} {v : Value} {a a' : Act} (hy : YS P ops S o v a) (he : execOp a'.eval o = execOp a.eval o)
    (hw : Region.wanted o (yielded ops a'.tmps) = Region.wanted o (yielded ops a.tmps)) : YS P ops S o v a' := by
  unfold YS at *; rw [he, hw]; exact hy

theorem YS.op {i : Nat} {o : Oper} {v : Value} {a : Act} (hi : ops[i]? = some o) (hy : YS P ops S o v a) {K : Act → World → Prop} {w : World} (hS : S w)
    (h : ∀ w', S w' → K (a.put o.dst v) w') : wpOp P ops Q i K a w := by
  unfold Go.wpOp
  simp only [hi]
  rcases hy with ⟨hw, hv⟩ | ⟨hw, rfl⟩
  · simp only [hw, if_true]
    refine .inl ?_
    have h1 := hv w hS
    unfold Oper.wp
    generalize (execOp a.eval o).run P w = r at h1 ⊢
    cases r with
    | ok n w' =>
      cases n with
      | value u => obtain ⟨rfl, hs⟩ := h1; exact h _ hs
      | skip => obtain ⟨rfl, hs⟩ := h1; exact h _ hs
      | enter f args =>
        simp only [OutS] at h1
        simp only [Oper.upon]
        refine Calls.mono h1 fun e w'' he => ?_
        obtain ⟨rfl, hs⟩ := he
        exact h _ hs
      | _ => exact h1.elim
    | halt x w' => exact h1.elim
  · simp only [hw, Bool.false_eq_true, if_false]; exact h _ hS

/-- whatever order is picked, from whatever world of which S holds -/
def wpS (P : Program) (md : Region.Mode) (ops : Array Oper) (Q : Exit → Act → World → Prop) (S : World → Prop) : Nat → Array Bool → Act → Prop
  | 0, listed, a => Region.ready md ops listed = [] ∧ ∀ w, S w → Q .normal a w
  | n + 1, listed, a => (Region.ready md ops listed = [] → ∀ w, S w → Q .normal a w) ∧
    ∀ i ∈ Region.ready md ops listed, ∀ w, S w → wpOp P ops Q i (fun a' w' => S w' ∧ wpS P md ops Q S n (listed.setIfInBounds i true) a') a w

theorem wpS_any : ∀ (n : Nat) (listed : Array Bool) (a : Act) (w : World), wpS P md ops Q S n listed a → S w → wpAny P md ops Q n listed a w
  | 0, _, _, w, h, hS => ⟨h.1, h.2 w hS⟩
  | n + 1, _, _, w, h, hS => ⟨fun h0 => h.1 h0 w hS, fun i hi => wpOp_mono (fun a' w' h' => wpS_any n _ a' w' h'.2 h'.1) (h.2 i hi w hS)⟩

theorem wpS_put {j : Nat} {oi oj : Oper} {v : Value} (hj : ops[j]? = some oj) (hap : oi.apart ops oj = true) (hsi : ∀ cs b, oi.op ≠ .select cs b) (hsj : ∀ cs b, oj.op ≠ .select cs b)
    (hQ : ∀ c a w, Q (.panic c) (a.put oi.dst v) w → Q (.panic c) a w) {K : Act → World → Prop} {a : Act} {w : World}
    (hy : YS P ops S oi v a) (h : wpOp P ops Q j K (a.put oi.dst v) w) : wpOp P ops Q j (fun a' w' => YS P ops S oi v a' ∧ K (a'.put oi.dst v) w') a w := by
  obtain ⟨h1, h2, h3⟩ := Oper.apart_spec hap
  have keep : ∀ (a : Act), YS P ops S oi v a → ∀ u, YS P ops S oi v (a.put oj.dst u) := fun a hy u => hy.of (execOp_put oi hsi a oj.dst u h3) (wanted_put oi a oj.dst u h3)
  unfold Go.wpOp at h ⊢
  simp only [hj] at h ⊢
  rw [wanted_put oj a oi.dst v h1] at h
  by_cases hw : Region.wanted oj (yielded ops a.tmps) = true
  · rw [if_pos hw] at h ⊢
    rcases h with h | ⟨hasks, hlets⟩
    · refine .inl ?_
      unfold Oper.wp at h ⊢
      rw [execOp_put oj hsj a oi.dst v h1] at h
      generalize (execOp a.eval oj).run P w = r at h ⊢
      cases r with
      | ok n w' =>
        cases n <;> simp only [Oper.upon] at h ⊢
        case value u => exact ⟨keep a hy u, by rw [← Act.put_comm a v u h2]; exact h⟩
        case skip => exact ⟨keep a hy _, by rw [← Act.put_comm a v undef h2]; exact h⟩
        case defer d =>
          refine ⟨keep { a with defers := d :: a.defers } (hy.of rfl rfl) _, ?_⟩
          rw [← Act.put_comm _ v undef h2, ← Act.put_defers]
          exact h
        case enter f args =>
          refine Calls.mono h fun e w'' he => ?_
          cases e with
          | returned u => exact ⟨keep a hy u, by rw [← Act.put_comm a v u h2]; exact he⟩
          | panicked c => exact hQ _ _ _ he
          | outgrown => exact he
        case row row args => exact Rows.mono h fun u w'' he => ⟨keep a hy u, by rw [← Act.put_comm a v u h2]; exact he⟩
      | halt x w' =>
        cases x <;> simp only [Oper.upon] at h ⊢
        case panic u => exact hQ _ _ _ h
    · exact .inr ⟨by unfold Oper.asks at hasks ⊢; rw [execOp_put oj hsj a oi.dst v h1] at hasks; exact hasks, hlets⟩
  · rw [if_neg hw] at h ⊢
    exact ⟨keep a hy _, by rw [← Act.put_comm a v undef h2]; exact h⟩

theorem wpS_first {i : Nat} {oi : Oper} {v : Value} (hi : ops[i]? = some oi) (hsel : ∀ (j : Nat) (o : Oper) cs b, ops[j]? = some o → o.op ≠ .select cs b)
    (hQ : ∀ c a w, Q (.panic c) (a.put oi.dst v) w → Q (.panic c) a w) : ∀ (n : Nat) (listed : Array Bool) (a : Act),
      (∀ j oj, ops[j]? = some oj → j ≠ i → listed.getD j true = false → (∀ e ∈ oj.after, Region.binds md e = true → e.on ≠ i) → oi.apart ops oj = true) →
      i ∈ Region.ready md ops listed → YS P ops S oi v a → wpS P md ops Q S n (listed.setIfInBounds i true) (a.put oi.dst v) → wpS P md ops Q S (n + 1) listed a := by
  intro n
  induction n with
  | zero =>
    intro listed a _ hr hy H
    refine ⟨fun h => (by rw [h] at hr; cases hr), fun j hj w hS => ?_⟩
    by_cases hji : j = i
    · subst hji; exact hy.op hi hS fun w' hs => ⟨hs, H⟩
    · have := ready_mono hj hji
      rw [H.1] at this
      cases this
  | succ n ih =>
    intro listed a hfree hr hy H
    refine ⟨fun h => (by rw [h] at hr; cases hr), fun j hj w hS => ?_⟩
    by_cases hji : j = i
    · subst hji; exact hy.op hi hS fun w' hs => ⟨hs, H⟩
    · have h1 := H.2 j (ready_mono hj hji) w hS
      obtain ⟨hjun, oj, hoj, hall⟩ := mem_ready.1 hj
      have hnot : ∀ e ∈ oj.after, Region.binds md e = true → e.on ≠ i := by
        intro e he hb heq
        have h1 := hall e he hb
        have h0 := (mem_ready.1 hr).1
        rw [heq] at h1
        rcases Nat.lt_or_ge i listed.size with h' | h'
        · simp [h'] at h0 h1; rw [h0] at h1; cases h1
        · simp [Array.getElem?_eq_none h'] at h1
      have h2 := wpS_put hoj (hfree j oj hoj hji hjun hnot) (fun cs b => hsel i oi cs b hi) (fun cs b => hsel j oj cs b hoj) hQ hy h1
      refine wpOp_mono (fun a' w' h3 => ⟨h3.2.1, ih (listed.setIfInBounds j true) a' (fun k ok hk hki hun hno => ?_) (ready_mono hr (Ne.symm hji)) h3.1 ?_⟩) h2
      · refine hfree k ok hk hki ?_ hno
        by_cases hjk : j = k
        · subst hjk; exact hjun
        · rw [getD_set_ne true hjk] at hun; exact hun
      · rw [Array.setIfInBounds_comm _ _ hji]
        exact h3.2.2

/-- number i first -/
theorem wpS_take (i : Nat) {oi : Oper} {v : Value} {n : Nat} {listed : Array Bool} {a : Act} (hi : ops[i]? = some oi)
    (hs : Region.noSelect ops = true) (hf : Region.free md ops listed i = true) (hr : (Region.ready md ops listed).contains i = true)
    (hQ : ∀ c a w, Q (.panic c) (a.put oi.dst v) w → Q (.panic c) a w) (hy : YS P ops S oi v a)
    (h : wpS P md ops Q S n (listed.setIfInBounds i true) (a.put oi.dst v)) : wpS P md ops Q S (n + 1) listed a :=
  wpS_first hi (Region.noSelect_spec hs) hQ n listed a (Region.free_spec hi hf) (by simpa using hr) hy h
theorem wpS_done {listed : Array Bool} {a : Act} (hr : Region.ready md ops listed = []) (h : ∀ w, S w → Q .normal a w) : ∀ n, wpS P md ops Q S n listed a
  | 0 => ⟨hr, h⟩
  | _ + 1 => ⟨fun _ => h, by rw [hr]; simp⟩
theorem wp_regionS (S : World → Prop) {id : Nat} {a : Act} {w : World} (hm : P.follows .mixedOrders = true) (hS : S w.drew)
    (h : wpS P .any ops Q S ops.size (Array.replicate ops.size false) a) : (Code.region id ops true).wp P Q a w :=
  wp_region_any hm (wpS_any _ _ _ _ h hS)

/-- an operation that looks at no memory, or reads what S tells of -/
theorem YS.val {o : Oper} {v : Value} {a : Act} (hw : Region.wanted o (yielded ops a.tmps) = true) (h : ∀ w, S w → (execOp a.eval o).run P w = .ok (.value v) w) : YS P ops S o v a :=
  .inl ⟨hw, fun w hS => by rw [h w hS]; exact ⟨rfl, hS⟩⟩
/-- a call by its contract -/
theorem YS.call {o : Oper} {v : Value} {a : Act} {f : FuncId} {args : Array Value} (hw : Region.wanted o (yielded ops a.tmps) = true) (h : ∀ w, (execOp a.eval o).run P w = .ok (.enter f args) w)
    (hc : ∀ w, S w → Calls P f args w fun e w' => e = .returned v ∧ S w') : YS P ops S o v a :=
  .inl ⟨hw, fun w hS => by rw [h w]; exact hc w hS⟩
/-- the load of a whole row -/
theorem YS.row {o : Oper} {a : Act} (hw : Region.wanted o (yielded ops a.tmps) = true) (ty : TypeId) (x : Operand) (ho : o.op = .load ty x)
    (b : Nat) (hx : a.eval x = .pointer (some ⟨b, 0, none⟩)) (cs : List Value) (d : TypeDesc) (hS : ∀ w, S w → w.rangeAt b 0 cs)
    (hu : P.underlying ty = some d) (hd : d.isRow = true) (hi : (P.info? ty).map (·.size) = some cs.length) : YS P ops S o (.agg cs.toArray) a := by
  rcases yieldsIf_load_mid (P := P) (ops := ops) hw ty x ho b 0 hx cs d hS hu hd hi with ⟨h1, h2⟩ | ⟨h1, h2⟩
  · exact YS.val h1 h2
  · rw [hw] at h1; cases h1
/-- a call by a contract that says that memory has grown, where S bears growth -/
theorem YS.grow {o : Oper} {v : Value} {a : Act} {f : FuncId} {args : Array Value} (hw : Region.wanted o (yielded ops a.tmps) = true) (h : ∀ w, (execOp a.eval o).run P w = .ok (.enter f args) w)
    (hK : ∀ w w', S w → w.grownBy w' none → S w') (hc : ∀ w, Calls P f args w fun e w' => e = .returned v ∧ w.grownBy w' none) : YS P ops S o v a :=
  YS.call hw h fun w hS => (hc w).mono fun _ w' h => ⟨h.1, hK w w' hS h.2⟩
/-- a call that leaves the world alone -/
theorem YS.same {o : Oper} {v : Value} {a : Act} {f : FuncId} {args : Array Value} (hw : Region.wanted o (yielded ops a.tmps) = true) (h : ∀ w, (execOp a.eval o).run P w = .ok (.enter f args) w)
    (hc : ∀ w, Calls P f args w fun e w' => e = .returned v ∧ w = w') : YS P ops S o v a :=
  YS.call hw h fun w hS => (hc w).mono fun _ _ h => ⟨h.1, h.2 ▸ hS⟩
end

end Go.Proofs.Ythemlaibjchjpaa
/- A region that draws its order and ends in one operation that waits for all the others (a store): whatever the order, one end. -/
namespace Go.Proofs.Ythemlaibjchjpaa
open Go.RowKit

section
variable {P : Program} {ops : Array Oper} {Q : Exit → Act → World → Prop} {md : Region.Mode} {S : World → Prop} {L : Nat}

/-- whatever order is picked, from whatever world of which S holds; number L is the last -/
def wpT (P : Program) (md : Region.Mode) (ops : Array Oper) (Q : Exit → Act → World → Prop) (S : World → Prop) (L : Nat) : Nat → Array Bool → Act → Prop
  | 0, _, _ => False
  | n + 1, listed, a => Region.ready md ops listed ≠ [] ∧
    ∀ i ∈ Region.ready md ops listed, ∀ w, S w → wpOp P ops Q i (fun a' w' => if i = L then Region.ready md ops (listed.setIfInBounds i true) = [] ∧ Q .normal a' w' else S w' ∧ wpT P md ops Q S L n (listed.setIfInBounds i true) a') a w

theorem wpT_any : ∀ (n : Nat) (listed : Array Bool) (a : Act) (w : World), wpT P md ops Q S L n listed a → S w → wpAny P md ops Q n listed a w
  | 0, _, _, _, h, _ => h.elim
  | n + 1, listed, a, w, h, hS => by
    refine ⟨fun h0 => absurd h0 h.1, fun i hi => wpOp_mono (fun a' w' h' => ?_) (h.2 i hi w hS)⟩
    by_cases hL : i = L
    · rw [if_pos hL] at h'
      exact wpAny_done h'.1 h'.2 n
    · rw [if_neg hL] at h'
      exact wpT_any n _ a' w' h'.2 h'.1

/-- what has come up has what it waited for -/
def Closed (md : Region.Mode) (ops : Array Oper) (listed : Array Bool) : Prop := ∀ (j : Nat) (o : Oper), ops[j]? = some o → listed.getD j false = true → ∀ e ∈ o.after, Region.binds md e = true → listed.getD e.on false = true
def closedB (md : Region.Mode) (ops : Array Oper) (listed : Array Bool) : Bool := (List.range ops.size).all fun j => match ops[j]? with
  | some o => !listed.getD j false || o.after.all fun e => !Region.binds md e || listed.getD e.on false
  | none => true
theorem closed_of {listed : Array Bool} (h : closedB md ops listed = true) : Closed md ops listed := by
  intro j o ho hj e he hb
  have h1 := List.all_eq_true.1 h j (List.mem_range.2 (Array.getElem?_eq_some_iff.1 ho).1)
  simp only [ho, hj, Bool.not_true, Bool.false_or] at h1
  have h2 := Array.all_eq_true_iff_forall_mem.1 h1 e he
  simpa [hb] using h2
theorem Closed.set {listed : Array Bool} (h : Closed md ops listed) {j : Nat} (hj : j ∈ Region.ready md ops listed) : Closed md ops (listed.setIfInBounds j true) := by
  intro k o ho hk e he hb
  by_cases hkj : j = k
  · subst hkj
    obtain ⟨_, o', ho', hall⟩ := mem_ready.1 hj
    rw [ho] at ho'
    injection ho' with ho'
    subst ho'
    exact getD_set_true (hall e he hb)
  · rw [getD_set_ne false hkj] at hk
    exact getD_set_true (h k o ho hk e he hb)
/-- does i come ahead of L: directly, or by one between -/
def aheadB (md : Region.Mode) (ops : Array Oper) (oL : Oper) (i : Nat) : Bool := oL.after.any (fun e => Region.binds md e && e.on == i) || oL.after.any (fun e => Region.binds md e && (match ops[e.on]? with
  | some o => o.after.any (fun f => Region.binds md f && f.on == i)
  | none => false))
theorem ahead_listed {listed : Array Bool} {oL : Oper} {i : Nat} (hc : Closed md ops listed) (h : aheadB md ops oL i = true) (hall : ∀ e ∈ oL.after, Region.binds md e = true → listed.getD e.on false = true) : listed.getD i false = true := by
  unfold aheadB at h
  rw [Bool.or_eq_true] at h
  rcases h with h | h
  · obtain ⟨e, he, hb⟩ := Array.any_eq_true'.1 h
    simp only [Bool.and_eq_true, beq_iff_eq] at hb
    rw [← hb.2]
    exact hall e he hb.1
  · obtain ⟨e, he, hb⟩ := Array.any_eq_true'.1 h
    rw [Bool.and_eq_true] at hb
    have h1 := hall e he hb.1
    have h2 := hb.2
    cases ho : ops[e.on]? with
    | none => rw [ho] at h2; cases h2
    | some o =>
      rw [ho] at h2
      obtain ⟨f, hf, hfb⟩ := Array.any_eq_true'.1 h2
      simp only [Bool.and_eq_true, beq_iff_eq] at hfb
      rw [← hfb.2]
      exact hc e.on o ho h1 f hf hfb.1
theorem wpT_first {i : Nat} {oi oL : Oper} {v : Value} (hi : ops[i]? = some oi) (hoL : ops[L]? = some oL) (hiL : i ≠ L) (hLi : aheadB md ops oL i = true) (hsel : ∀ (j : Nat) (o : Oper) cs b, ops[j]? = some o → o.op ≠ .select cs b)
    (hQ : ∀ c a w, Q (.panic c) (a.put oi.dst v) w → Q (.panic c) a w) : ∀ (n : Nat) (listed : Array Bool) (a : Act), Closed md ops listed →
      (∀ j oj, ops[j]? = some oj → j ≠ i → listed.getD j true = false → (∀ e ∈ oj.after, Region.binds md e = true → e.on ≠ i) → oi.apart ops oj = true) →
      i ∈ Region.ready md ops listed → YS P ops S oi v a → wpT P md ops Q S L n (listed.setIfInBounds i true) (a.put oi.dst v) → wpT P md ops Q S L (n + 1) listed a := by
  intro n
  induction n with
  | zero => intro listed a _ _ _ _ H; exact H.elim
  | succ n ih =>
    intro listed a hcl hfree hr hy H
    refine ⟨fun h => (by rw [h] at hr; cases hr), fun j hj w hS => ?_⟩
    obtain ⟨hjun, oj, hoj, hall⟩ := mem_ready.1 hj
    have hnot : ∀ e ∈ oj.after, Region.binds md e = true → e.on ≠ i := by
      intro e he hb heq
      have h1 := hall e he hb
      have h0 := (mem_ready.1 hr).1
      rw [heq] at h1
      rcases Nat.lt_or_ge i listed.size with h' | h'
      · simp [h'] at h0 h1; rw [h0] at h1; cases h1
      · simp [Array.getElem?_eq_none h'] at h1
    by_cases hji : j = i
    · subst hji
      refine hy.op hi hS fun w' hs => ?_
      rw [if_neg hiL]
      exact ⟨hs, H⟩
    · have hjL : j ≠ L := by
        rintro rfl
        rw [hoL] at hoj
        injection hoj with hoj
        subst hoj
        have h1 := ahead_listed hcl hLi hall
        have h0 := (mem_ready.1 hr).1
        rcases Nat.lt_or_ge i listed.size with h' | h'
        · simp [h'] at h0 h1; rw [h0] at h1; cases h1
        · simp [Array.getElem?_eq_none h'] at h1
      have h1 := H.2 j (ready_mono hj hji) w hS
      have h2 := wpS_put hoj (hfree j oj hoj hji hjun hnot) (fun cs b => hsel i oi cs b hi) (fun cs b => hsel j oj cs b hoj) hQ hy h1
      refine wpOp_mono (fun a' w' h3 => ?_) h2
      rw [if_neg hjL] at h3 ⊢
      refine ⟨h3.2.1, ih (listed.setIfInBounds j true) a' (hcl.set hj) (fun k ok hk hki hun hno => ?_) (ready_mono hr (Ne.symm hji)) h3.1 ?_⟩
      · refine hfree k ok hk hki ?_ hno
        by_cases hjk : j = k
        · subst hjk; exact hjun
        · rw [getD_set_ne true hjk] at hun; exact hun
      · rw [Array.setIfInBounds_comm _ _ hji]
        exact h3.2.2

/-- number i first -/
theorem wpT_take (i : Nat) {oi oL : Oper} {v : Value} {n : Nat} {listed : Array Bool} {a : Act} (hi : ops[i]? = some oi) (hoL : ops[L]? = some oL) (hiL : (i == L) = false) (hLi : aheadB md ops oL i = true) (hcl : closedB md ops listed = true)
    (hs : Region.noSelect ops = true) (hf : Region.free md ops listed i = true) (hr : (Region.ready md ops listed).contains i = true)
    (hQ : ∀ c a w, Q (.panic c) (a.put oi.dst v) w → Q (.panic c) a w) (hy : YS P ops S oi v a)
    (h : wpT P md ops Q S L n (listed.setIfInBounds i true) (a.put oi.dst v)) : wpT P md ops Q S L (n + 1) listed a :=
  wpT_first hi hoL (by simpa using hiL) hLi (Region.noSelect_spec hs) hQ n listed a (closed_of hcl) (Region.free_spec hi hf) (by simpa using hr) hy h
/-- the last one, carried out -/
theorem wpT_last {oL : Oper} {n : Nat} {listed : Array Bool} {a : Act} (hoL : ops[L]? = some oL) (hr : Region.ready md ops listed = [L]) (hr2 : Region.ready md ops (listed.setIfInBounds L true) = []) (hw : Region.wanted oL (yielded ops a.tmps) = true)
    (h : ∀ w, S w → ∀ K : Act → World → Prop, (∀ a' w', Q .normal a' w' → K a' w') → oL.wp P a w K Q) : wpT P md ops Q S L (n + 1) listed a := by
  refine ⟨by rw [hr]; simp, fun i hi w hS => ?_⟩
  rw [hr] at hi
  obtain rfl : i = L := by simpa using hi
  unfold wpOp
  simp only [hoL, hw, if_true]
  exact .inl (h w hS _ fun a' w' hq => ⟨hr2, hq⟩)
theorem wp_regionT (S : World → Prop) (L : Nat) {id : Nat} {a : Act} {w : World} (hm : P.follows .mixedOrders = true) (hS : S w.drew)
    (h : wpT P .any ops Q S L ops.size (Array.replicate ops.size false) a) : (Code.region id ops true).wp P Q a w :=
  wp_region_any hm (wpT_any _ _ _ _ h hS)
end

end Go.Proofs.Ythemlaibjchjpaa
/- A region that draws its order, makes a variable of its own somewhere among calls that make memory, and ends in one store: whatever the order, one end. The condition on the world may grow stronger on the way. -/
namespace Go.Proofs.Ythemlaibjchjpaa
open Go.RowKit

/-- a condition that growth keeps -/
def Clo (S : World → Prop) : Prop := ∀ w w', S w → w.grownBy w' none → S w'
section
variable {P : Program} {ops : Array Oper} {Q : Exit → Act → World → Prop} {md : Region.Mode} {L : Nat}

def OutG (P : Program) (v : Value) (w : World) : Result Next → Prop
  | .ok (.value u) w' => u = v ∧ w.grownBy w' none
  | .ok .skip w' => v = undef ∧ w.grownBy w' none
  | .ok (.enter f args) w' => Calls P f args w' fun e w'' => e = .returned v ∧ w.grownBy w'' none
  | _ => False
def YG (P : Program) (ops : Array Oper) (S : World → Prop) (o : Oper) (v : Value) (a : Act) : Prop :=
  (Region.wanted o (yielded ops a.tmps) = true ∧ ∀ w, S w → OutG P v w ((execOp a.eval o).run P w)) ∨
  (Region.wanted o (yielded ops a.tmps) = false ∧ v = undef)
theorem YG.of {S : World → Prop} {o : Oper} {v : Value} {a a' : Act} (hy : YG P ops S o v a) (he : execOp a'.eval o = execOp a.eval o)
    (hw : Region.wanted o (yielded ops a'.tmps) = Region.wanted o (yielded ops a.tmps)) : YG P ops S o v a' := by
  unfold YG at *; rw [he, hw]; exact hy
theorem YG.sub {S S' : World → Prop} {o : Oper} {v : Value} {a : Act} (hy : YG P ops S o v a) (h : ∀ w, S' w → S w) : YG P ops S' o v a :=
  hy.imp (fun ⟨h1, h2⟩ => ⟨h1, fun w hw => h2 w (h w hw)⟩) id
theorem YG.op {S : World → Prop} {i : Nat} {o : Oper} {v : Value} {a : Act} (hi : ops[i]? = some o) (hy : YG P ops S o v a) {K : Act → World → Prop} {w : World} (hS : S w)
    (h : ∀ w', w.grownBy w' none → K (a.put o.dst v) w') : wpOp P ops Q i K a w := by
  unfold Go.wpOp
  simp only [hi]
  rcases hy with ⟨hw, hv⟩ | ⟨hw, rfl⟩
  · simp only [hw, if_true]
    refine .inl ?_
    have h1 := hv w hS
    unfold Oper.wp
    generalize (execOp a.eval o).run P w = r at h1 ⊢
    cases r with
    | ok n w' =>
      cases n with
      | value u => obtain ⟨rfl, hs⟩ := h1; exact h _ hs
      | skip => obtain ⟨rfl, hs⟩ := h1; exact h _ hs
      | enter f args =>
        simp only [OutG] at h1
        simp only [Oper.upon]
        refine Calls.mono h1 fun e w'' he => ?_
        obtain ⟨rfl, hs⟩ := he
        exact h _ hs
      | _ => exact h1.elim
    | halt x w' => exact h1.elim
  · simp only [hw, Bool.false_eq_true, if_false]; exact h _ (World.grownBy.refl _ _)

def wpX (P : Program) (md : Region.Mode) (ops : Array Oper) (Q : Exit → Act → World → Prop) (L : Nat) : Nat → (World → Prop) → Array Bool → Act → Prop
  | 0, _, _, _ => False
  | n + 1, S, listed, a => Region.ready md ops listed ≠ [] ∧
    ∀ i ∈ Region.ready md ops listed, ∀ w, S w → wpOp P ops Q i (fun a' w' => if i = L then Region.ready md ops (listed.setIfInBounds i true) = [] ∧ Q .normal a' w' else
      ∃ S' : World → Prop, S' w' ∧ (∀ w, S' w → S w) ∧ Clo S' ∧ wpX P md ops Q L n S' (listed.setIfInBounds i true) a') a w

theorem wpX_any : ∀ (n : Nat) (S : World → Prop) (listed : Array Bool) (a : Act) (w : World), wpX P md ops Q L n S listed a → S w → wpAny P md ops Q n listed a w
  | 0, _, _, _, _, h, _ => h.elim
  | n + 1, S, listed, a, w, h, hS => by
    refine ⟨fun h0 => absurd h0 h.1, fun i hi => wpOp_mono (fun a' w' h' => ?_) (h.2 i hi w hS)⟩
    by_cases hL : i = L
    · rw [if_pos hL] at h'
      exact wpAny_done h'.1 h'.2 n
    · rw [if_neg hL] at h'
      obtain ⟨S', hs, _, _, hw⟩ := h'
      exact wpX_any n S' _ a' w' hw hs

theorem wpX_put {S : World → Prop} {j : Nat} {oi oj : Oper} {v : Value} (hj : ops[j]? = some oj) (hap : oi.apart ops oj = true) (hsi : ∀ cs b, oi.op ≠ .select cs b) (hsj : ∀ cs b, oj.op ≠ .select cs b)
    (hQ : ∀ c a w, Q (.panic c) (a.put oi.dst v) w → Q (.panic c) a w) {K : Act → World → Prop} {a : Act} {w : World}
    (hy : YG P ops S oi v a) (h : wpOp P ops Q j K (a.put oi.dst v) w) : wpOp P ops Q j (fun a' w' => YG P ops S oi v a' ∧ K (a'.put oi.dst v) w') a w := by
  obtain ⟨h1, h2, h3⟩ := Oper.apart_spec hap
  have keep : ∀ (a : Act), YG P ops S oi v a → ∀ u, YG P ops S oi v (a.put oj.dst u) := fun a hy u => hy.of (execOp_put oi hsi a oj.dst u h3) (wanted_put oi a oj.dst u h3)
  unfold Go.wpOp at h ⊢
  simp only [hj] at h ⊢
  rw [wanted_put oj a oi.dst v h1] at h
  by_cases hw : Region.wanted oj (yielded ops a.tmps) = true
  · rw [if_pos hw] at h ⊢
    rcases h with h | ⟨hasks, hlets⟩
    · refine .inl ?_
      unfold Oper.wp at h ⊢
      rw [execOp_put oj hsj a oi.dst v h1] at h
      generalize (execOp a.eval oj).run P w = r at h ⊢
      cases r with
      | ok n w' =>
        cases n <;> simp only [Oper.upon] at h ⊢
        case value u => exact ⟨keep a hy u, by rw [← Act.put_comm a v u h2]; exact h⟩
        case skip => exact ⟨keep a hy _, by rw [← Act.put_comm a v undef h2]; exact h⟩
        case defer d =>
          refine ⟨keep { a with defers := d :: a.defers } (hy.of rfl rfl) _, ?_⟩
          rw [← Act.put_comm _ v undef h2, ← Act.put_defers]
          exact h
        case enter f args =>
          refine Calls.mono h fun e w'' he => ?_
          cases e with
          | returned u => exact ⟨keep a hy u, by rw [← Act.put_comm a v u h2]; exact he⟩
          | panicked c => exact hQ _ _ _ he
          | outgrown => exact he
        case row row args => exact Rows.mono h fun u w'' he => ⟨keep a hy u, by rw [← Act.put_comm a v u h2]; exact he⟩
      | halt x w' =>
        cases x <;> simp only [Oper.upon] at h ⊢
        case panic u => exact hQ _ _ _ h
    · exact .inr ⟨by unfold Oper.asks at hasks ⊢; rw [execOp_put oj hsj a oi.dst v h1] at hasks; exact hasks, hlets⟩
  · rw [if_neg hw] at h ⊢
    exact ⟨keep a hy _, by rw [← Act.put_comm a v undef h2]; exact h⟩

theorem wpX_first {i : Nat} {oi oL : Oper} {v : Value} (hi : ops[i]? = some oi) (hoL : ops[L]? = some oL) (hiL : i ≠ L) (hLi : aheadB md ops oL i = true) (hsel : ∀ (j : Nat) (o : Oper) cs b, ops[j]? = some o → o.op ≠ .select cs b)
    (hQ : ∀ c a w, Q (.panic c) (a.put oi.dst v) w → Q (.panic c) a w) : ∀ (n : Nat) (S : World → Prop) (listed : Array Bool) (a : Act), Clo S → Closed md ops listed →
      (∀ j oj, ops[j]? = some oj → j ≠ i → listed.getD j true = false → (∀ e ∈ oj.after, Region.binds md e = true → e.on ≠ i) → oi.apart ops oj = true) →
      i ∈ Region.ready md ops listed → YG P ops S oi v a → wpX P md ops Q L n S (listed.setIfInBounds i true) (a.put oi.dst v) → wpX P md ops Q L (n + 1) S listed a := by
  intro n
  induction n with
  | zero => intro S listed a _ _ _ _ _ H; exact H.elim
  | succ n ih =>
    intro S listed a hclo hcl hfree hr hy H
    refine ⟨fun h => (by rw [h] at hr; cases hr), fun j hj w hS => ?_⟩
    obtain ⟨hjun, oj, hoj, hall⟩ := mem_ready.1 hj
    have hnot : ∀ e ∈ oj.after, Region.binds md e = true → e.on ≠ i := by
      intro e he hb heq
      have h1 := hall e he hb
      have h0 := (mem_ready.1 hr).1
      rw [heq] at h1
      rcases Nat.lt_or_ge i listed.size with h' | h'
      · simp [h'] at h0 h1; rw [h0] at h1; cases h1
      · simp [Array.getElem?_eq_none h'] at h1
    by_cases hji : j = i
    · subst hji
      refine hy.op hi hS fun w' hg => ?_
      rw [if_neg hiL]
      exact ⟨S, hclo w w' hS hg, fun _ h => h, hclo, H⟩
    · have hjL : j ≠ L := by
        rintro rfl
        rw [hoL] at hoj
        injection hoj with hoj
        subst hoj
        have h1 := ahead_listed hcl hLi hall
        have h0 := (mem_ready.1 hr).1
        rcases Nat.lt_or_ge i listed.size with h' | h'
        · simp [h'] at h0 h1; rw [h0] at h1; cases h1
        · simp [Array.getElem?_eq_none h'] at h1
      have h1 := H.2 j (ready_mono hj hji) w hS
      have h2 := wpX_put hoj (hfree j oj hoj hji hjun hnot) (fun cs b => hsel i oi cs b hi) (fun cs b => hsel j oj cs b hoj) hQ hy h1
      refine wpOp_mono (fun a' w' h3 => ?_) h2
      rw [if_neg hjL] at h3 ⊢
      obtain ⟨hya, S', hs', hsub, hclo', hwx⟩ := h3
      refine ⟨S', hs', hsub, hclo', ih S' (listed.setIfInBounds j true) a' hclo' (hcl.set hj) (fun k ok hk hki hun hno => ?_) (ready_mono hr (Ne.symm hji)) (hya.sub hsub) ?_⟩
      · refine hfree k ok hk hki ?_ hno
        by_cases hjk : j = k
        · subst hjk; exact hjun
        · rw [getD_set_ne true hjk] at hun; exact hun
      · rw [Array.setIfInBounds_comm _ _ hji]
        exact hwx

/-- number i first -/
theorem wpX_take (i : Nat) {S : World → Prop} {oi oL : Oper} {v : Value} {n : Nat} {listed : Array Bool} {a : Act} (hclo : Clo S) (hi : ops[i]? = some oi) (hoL : ops[L]? = some oL) (hiL : (i == L) = false) (hLi : aheadB md ops oL i = true) (hcl : closedB md ops listed = true)
    (hs : Region.noSelect ops = true) (hf : Region.free md ops listed i = true) (hr : (Region.ready md ops listed).contains i = true)
    (hQ : ∀ c a w, Q (.panic c) (a.put oi.dst v) w → Q (.panic c) a w) (hy : YG P ops S oi v a)
    (h : wpX P md ops Q L n S (listed.setIfInBounds i true) (a.put oi.dst v)) : wpX P md ops Q L (n + 1) S listed a :=
  wpX_first hi hoL (by simpa using hiL) hLi (Region.noSelect_spec hs) hQ n S listed a hclo (closed_of hcl) (Region.free_spec hi hf) (by simpa using hr) hy h
/-- the one that may come up alone is carried out; the condition may grow stronger -/
theorem wpX_step (k : Nat) {S : World → Prop} {o : Oper} {n : Nat} {listed : Array Bool} {a : Act} (ho : ops[k]? = some o) (hkL : (k == L) = false) (hr : Region.ready md ops listed = [k]) (hw : Region.wanted o (yielded ops a.tmps) = true)
    (h : ∀ w, S w → ∀ K : Act → World → Prop, (∀ (S' : World → Prop) a' w', S' w' → (∀ w, S' w → S w) → Clo S' → wpX P md ops Q L n S' (listed.setIfInBounds k true) a' → K a' w') → o.wp P a w K Q) : wpX P md ops Q L (n + 1) S listed a := by
  refine ⟨by rw [hr]; simp, fun i hi w hS => ?_⟩
  rw [hr] at hi
  obtain rfl : i = k := by simpa using hi
  have hne : i ≠ L := by simpa using hkL
  unfold wpOp
  simp only [ho, hw, if_true]
  refine .inl (h w hS _ fun S' a' w' h1 h2 h3 h4 => ?_)
  rw [if_neg hne]
  exact ⟨S', h1, h2, h3, h4⟩
/-- the last one, carried out -/
theorem wpX_last {S : World → Prop} {oL : Oper} {n : Nat} {listed : Array Bool} {a : Act} (hoL : ops[L]? = some oL) (hr : Region.ready md ops listed = [L]) (hr2 : Region.ready md ops (listed.setIfInBounds L true) = []) (hw : Region.wanted oL (yielded ops a.tmps) = true)
    (h : ∀ w, S w → ∀ K : Act → World → Prop, (∀ a' w', Q .normal a' w' → K a' w') → oL.wp P a w K Q) : wpX P md ops Q L (n + 1) S listed a := by
  refine ⟨by rw [hr]; simp, fun i hi w hS => ?_⟩
  rw [hr] at hi
  obtain rfl : i = L := by simpa using hi
  unfold wpOp
  simp only [hoL, hw, if_true]
  refine .inl (h w hS _ fun a' w' hq => ?_)
  exact ⟨hr2, hq⟩
theorem wp_regionX (S : World → Prop) (L : Nat) {id : Nat} {a : Act} {w : World} (hm : P.follows .mixedOrders = true) (hS : S w.drew)
    (h : wpX P .any ops Q L ops.size S (Array.replicate ops.size false) a) : (Code.region id ops true).wp P Q a w :=
  wp_region_any hm (wpX_any _ _ _ _ _ h hS)

theorem YG.val {S : World → Prop} {o : Oper} {v : Value} {a : Act} (hw : Region.wanted o (yielded ops a.tmps) = true) (h : ∀ w, S w → (execOp a.eval o).run P w = .ok (.value v) w) : YG P ops S o v a :=
  .inl ⟨hw, fun w hS => by rw [h w hS]; exact ⟨rfl, World.grownBy.refl _ _⟩⟩
theorem YG.call {S : World → Prop} {o : Oper} {v : Value} {a : Act} {f : FuncId} {args : Array Value} (hw : Region.wanted o (yielded ops a.tmps) = true) (h : ∀ w, (execOp a.eval o).run P w = .ok (.enter f args) w)
    (hc : ∀ w, S w → Calls P f args w fun e w' => e = .returned v ∧ w.grownBy w' none) : YG P ops S o v a :=
  .inl ⟨hw, fun w hS => by rw [h w]; exact hc w hS⟩
theorem YG.row {S : World → Prop} {o : Oper} {a : Act} (hw : Region.wanted o (yielded ops a.tmps) = true) (ty : TypeId) (x : Operand) (ho : o.op = .load ty x)
    (b f : Nat) (hx : a.eval x = .pointer (some ⟨b, f, none⟩)) (cs : List Value) (d : TypeDesc) (hS : ∀ w, S w → w.rangeAt b f cs)
    (hu : P.underlying ty = some d) (hd : d.isRow = true) (hi : (P.info? ty).map (·.size) = some cs.length) : YG P ops S o (.agg cs.toArray) a := by
  rcases yieldsIf_load_mid (P := P) (ops := ops) hw ty x ho b f hx cs d hS hu hd hi with ⟨h1, h2⟩ | ⟨h1, h2⟩
  · exact YG.val h1 h2
  · rw [hw] at h1; cases h1
end

end Go.Proofs.Ythemlaibjchjpaa
/- A region that draws its order and makes one call whose answer is told only by letters: helpers for XRegX; a list's beginning handed on. -/
namespace Go.Proofs.Ythemlaibjchjpaa
open Go.RowKit

section
variable {P : Program}
theorem wp_call_op {o : Oper} {a : Act} {w w1 : World} {K : Act → World → Prop} {Q : Exit → Act → World → Prop} {f : FuncId} {args : Array Value} (h : (execOp a.eval o).run P w = .ok (.enter f args) w1)
    (hc : Calls P f args w1 fun e w' => ∃ v, e = .returned v ∧ K (a.put o.dst v) w') : o.wp P a w K Q := by
  unfold Oper.wp
  rw [h]
  simp only [Oper.upon]
  refine hc.mono ?_
  rintro e w' ⟨v, rfl, hk⟩
  exact hk
theorem wp_val_op {o : Oper} {a : Act} {w w1 : World} {K : Act → World → Prop} {Q : Exit → Act → World → Prop} {v : Value} (h : (execOp a.eval o).run P w = .ok (.value v) w1) (hk : K (a.put o.dst v) w1) : o.wp P a w K Q := by
  unfold Oper.wp
  rw [h, Oper.upon_value]
  exact hk
end

theorem clo_grown (w0 : World) : Clo (fun u => w0.grownBy u none) := fun _ _ h g => grownBy_trans h g

theorem run_pre_op (w : World) (ev : Operand → Value) {o : Oper} (x h : Operand) (ho : o.op = .slice 22 x none (some h) none) (g N c m : Nat) (hx : ev x = .slice (some ⟨g, 0, none⟩) N c) (hh : ev h = .int .i64 (m : Int)) (hm : m ≤ c) :
    (execOp ev o).run Try.prog w = .ok (.value (.slice (some ⟨g, 0, none⟩) m c)) w := by
  have hu : Try.prog.underlying 22 = some (.slice (Try.prog.elem 22)) := by kernel_rfl
  have hz : (sizeOf (Try.prog.elem 22)).run Try.prog w = .ok 1 w := by
    obtain ⟨i, hi, hz, hs, hb⟩ := elB.info
    have he : Try.prog.elem 22 = 5 := by kernel_rfl
    rw [he]
    simp [sizeOf, typeInfo, hi, hs]
  unfold execOp
  simp only [ho, Option.map_some, Option.map_none]
  simp only [Sem.run_bind, run_sliceAt_slice (P := Try.prog) w _ _ _ _ _ hu, hx, hh]
  rw [run_slice_h (P := Try.prog) w _ _ _ _ hu _ _ (by omega) (by omega)]
  simp [hz, sliced, Addr.add]

end Go.Proofs.Ythemlaibjchjpaa
/- A list's middle handed on: b[lo:hi]. -/
namespace Go.Proofs.Ythemlaibjchjpaa
open Go.RowKit

def midA (a : Option Addr) (f c : Nat) : Option Addr := if c = f then a else a.map (·.add f)
theorem run_mid (w : World) (a : Option Addr) (N c f h : Nat) (h1 : f ≤ h) (h2 : h ≤ c) :
    (Instr.slice 22 (.slice a N c) (some (.int .i64 (f : Int))) (some (.int .i64 (h : Int))) none).run Try.prog w = .ok (.slice (midA a f c) (h - f) (c - f)) w := by
  have hu : Try.prog.underlying 22 = some (.slice (Try.prog.elem 22)) := by kernel_rfl
  have hz : (sizeOf (Try.prog.elem 22)).run Try.prog w = .ok 1 w := by
    obtain ⟨i, hi, hz, hs, hb⟩ := elB.info
    have he : Try.prog.elem 22 = 5 := by kernel_rfl
    rw [he]
    simp [sizeOf, typeInfo, hi, hs]
  rw [run_slice_lh (P := Try.prog) w _ _ _ _ hu _ _ _ _ (by omega) (by omega) (by omega)]
  simp [hz, sliced, midA]
theorem run_mid_op (w : World) (ev : Operand → Value) {o : Oper} (x lo hi : Operand) (ho : o.op = .slice 22 x (some lo) (some hi) none) (a : Option Addr) (N c f h : Nat) (hx : ev x = .slice a N c) (hl : ev lo = .int .i64 (f : Int)) (hh : ev hi = .int .i64 (h : Int)) (h1 : f ≤ h) (h2 : h ≤ c) :
    (execOp ev o).run Try.prog w = .ok (.value (.slice (midA a f c) (h - f) (c - f))) w := by
  have hu : Try.prog.underlying 22 = some (.slice (Try.prog.elem 22)) := by kernel_rfl
  unfold execOp
  simp only [ho, Option.map_some, Option.map_none]
  simp only [Sem.run_bind, run_sliceAt_slice (P := Try.prog) w _ _ _ _ _ hu, hx, hl, hh]
  rw [run_mid w a N c f h h1 h2]
  rfl
theorem mid_lies {w : World} {a : Option Addr} {l : List UInt8} (ha : BLies w a l) (f r c : Nat) (h : f + r ≤ l.length) (hc : l.length ≤ c) : BLies w (midA a f c) ((l.drop f).take r) := by
  rcases Nat.eq_zero_or_pos r with h0 | h0
  · subst h0
    rw [List.take_zero]
    exact BLies.nil _ _
  · obtain ⟨b, o, rfl⟩ := BLies.addr ha (by omega)
    have hne : ¬ c = f := by omega
    have e : midA (some ⟨b, o, none⟩) f c = some ⟨b, o + f, none⟩ := by
      unfold midA
      rw [if_neg hne]
      show some ((⟨b, o, none⟩ : Addr).add f) = _
      congr 1
      unfold Addr.add
      split <;> simp_all
    rw [e]
    exact (drop_lies ha f).take r
theorem mid_len {l : List UInt8} {f r : Nat} (h : f + r ≤ l.length) : ((l.drop f).take r).length = r := by rw [List.length_take, List.length_drop]; omega
theorem run_mid_op2 (w : World) (ev : Operand → Value) {o : Oper} (x lo hi : Operand) (ho : o.op = .slice 22 x (some lo) (some hi) none) (a : Option Addr) (N c f r : Nat) (hx : ev x = .slice a N c) (hl : ev lo = .int .i64 (f : Int)) (hh : ev hi = .int .i64 ((f + r : Nat) : Int)) (h2 : f + r ≤ c) :
    (execOp ev o).run Try.prog w = .ok (.value (.slice (midA a f c) r (c - f))) w := by
  rw [run_mid_op w ev x lo hi ho a N c f (f + r) hx hl hh (by omega) h2, Nat.add_sub_cancel_left]
theorem wpList_valp {P : Program} {ops : Array Oper} {Q : Exit → Act → World → Prop} {o : Oper} {rest : List Oper} {a : Act} {w w1 : World} {v : Value} (hg : o.guard = none) (hr : (execOp a.eval o).run P w = .ok (.value v) w1) (h : wpList P ops Q rest (a.put o.dst v) w1) : wpList P ops Q (o :: rest) a w := by
  refine wpList_plain hg fun K hK => ?_
  unfold Oper.wp
  rw [hr, Oper.upon_value]
  exact hK _ _ h
end Go.Proofs.Ythemlaibjchjpaa
/- The document's Unframed. -/
namespace Go.Proofs.Ythemlaibjchjpaa
open Go.RowKit

set_option maxRecDepth 100000 in
set_option maxHeartbeats 4000000 in
theorem refUnframed_n (a : Option Addr) (c n : Nat) (l : List UInt8) (w : World) (ha : BLies w a l) (hl : l.length = n) (hnc : n ≤ c) (hn : n ≤ 1000000000) :
    Calls Try.prog 57 #[.slice a n c] w fun e w' => ∃ ao co L, e = .returned (.tuple #[.slice ao (unP l).length co, .int .i64 (unE l : Nat)]) ∧ LIs w' w.heap.size ao (unP l).length co (unP l) L ∧ w.grownBy w' none := by
  have HA := Lib.hid ha
  have HL := Lib.hid hl
  clear ha hl
  go_enter Try.func57, Try.ntmps57
  go_wp2_with fail
  go_loopw [4, 5] (fun vo vi wr => ∃ (K i : Nat) (ao : Option Addr) (co : Nat) (ps : List (List UInt8)) (L : List Sl), vo = .slice ao K co ∧ vi = .int .i64 i ∧ i ≤ n ∧ LIs wr w.heap.size ao K co ps L ∧ unf l = (unf (l.drop i)).map (ps ++ ·) ∧ 8 * K ≤ i ∧ w.grownBy wr none) (fun _ vi _ => n - (intOf vi).toNat)
  case atStart => exact ⟨0, 0, none, 0, [], [], rfl, rfl, by omega, ⟨Own.nil _ _ _ _ _, rfl, fun i h => absurd h (by simp), fun i j h => absurd h (by simp)⟩, by simp only [List.drop_zero]; cases unf l <;> simp, by omega, World.grownBy.refl _ _⟩
  case round =>
    obtain ⟨K, i, ao, co, ps, L, rfl, rfl, hi, hli, hu, hK, hg⟩ := hrel
    have HLI := Lib.hid hli
    have HU := Lib.hid hu
    have HG := Lib.hid hg
    have HSZ := Lib.hid hg.size
    clear hli hu hg
    have hrl : (l.drop i).length = n - i := by rw [List.length_drop, HL.out]
    obtain ⟨rem, hrem⟩ : ∃ rem, rem = l.drop i := ⟨_, rfl⟩
    rw [← hrem] at hrl
    have HRL := Lib.hid hrl
    have HREM := Lib.hid hrem
    clear hrl hrem
    by_cases hlt : i < n
    · by_cases h8 : n - i < 8
      · have hd : decide ((n : Int) - (i : Int) < 8) = true := decide_eq_true (by omega)
        go_wp2_with fail
        go_ret2
        have hu3 : unf l = none := by rw [HU.out, ← HREM.out, unf_short (fun e => by have h := HRL.out; rw [e] at h; simp at h; omega) (by rw [HRL.out]; exact h8)]; rfl
        refine ⟨none, 0, [], ?_, ?_, HG.out⟩
        · unfold unP unE; rw [hu3]; rfl
        · unfold unP; rw [hu3]; exact ⟨Own.nil _ _ _ _ _, rfl, fun i h => absurd h (by simp), fun i j h => absurd h (by simp)⟩
      · have hd : decide ((n : Int) - (i : Int) < 8) = false := decide_eq_false (by omega)
        have h8' : 8 ≤ rem.length := by rw [HRL.out]; omega
        obtain ⟨v, hv⟩ : ∃ v, v = smallL (rem.take 8) := ⟨_, rfl⟩
        have hvlt : v < 18446744073709551616 := by have := smallL_lt 8 (rem.take 8) (by rw [List.length_take, Nat.min_eq_left h8']); rw [hv]; simpa using this
        obtain ⟨r, hr⟩ : ∃ r, r = n - (i + 8) := ⟨_, rfl⟩
        have hsub : (n : Int) - ((i : Int) + 8) = (r : Int) := by omega
        have hrw : IntKind.u64.wrap (r : Int) = (r : Int) := IntWalk.u64_in _ (by omega)
        have hmid : BLies wr (midA a i c) (rem.take 8) := by
          have h := mid_lies (HA.out.grown HG.out) i 8 c (by rw [HL.out]; omega) (by rw [HL.out]; exact hnc)
          rw [← HREM.out] at h
          exact h
        have HMID := Lib.hid hmid
        have HV := Lib.hid hv
        have H8 := Lib.hid h8'
        have HRR := Lib.hid hr
        clear hmid hv h8' hr
        rcases Nat.lt_or_ge r v with hc | hc
        · have hcd : decide ((r : Int) < (v : Int)) = true := decide_eq_true (by omega)
          go_wp2_with (first | (refine wpList_valp rfl (run_mid_op2 _ _ (.tmp 19) (.tmp 20) (.tmp 22) rfl a n c i 8 rfl rfl rfl (by omega)) ?_) | (go_at_call 27; refine (refSmall_any (midA a i c) (c - i) 8 8 (rem.take 8) _ HMID.out (by rw [List.length_take, Nat.min_eq_left H8.out]) (by decide) (by omega)).mono ?_; rintro e w' ⟨rfl, rfl⟩; rw [if_neg (by omega), if_neg (by omega), ← HV.out]))
          go_ret2
          have hu3 : unf l = none := by rw [HU.out, ← HREM.out, unf_long H8.out (by have h1 := HRL.out; have h2 := HV.out; have h3 := HRR.out; omega)]; rfl
          refine ⟨none, 0, [], ?_, ?_, HG.out⟩
          · unfold unP unE; rw [hu3]; rfl
          · unfold unP; rw [hu3]; exact ⟨Own.nil _ _ _ _ _, rfl, fun i h => absurd h (by simp), fun i j h => absurd h (by simp)⟩
        · have hcd : decide ((r : Int) < (v : Int)) = false := decide_eq_false (by omega)
          have hrn : r + (i + 8) = n := by have := HRR.out; omega
          have hv64 : wrap64 (v : Int) = (v : Int) := IntWalk.wrap64_in _ (by omega)
          have hlies : BLies wr (midA a (i + 8) c) ((rem.drop 8).take v) := by
            have h := mid_lies (HA.out.grown HG.out) (i + 8) v c (by rw [HL.out]; omega) (by rw [HL.out]; exact hnc)
            rw [← List.drop_drop, ← HREM.out] at h
            exact h
          have hlen : ((rem.drop 8).take v).length = v := by rw [List.length_take, List.length_drop, HRL.out]; omega
          have HLS := Lib.hid hlies
          have HLN := Lib.hid hlen
          clear hlies hlen
          have hnil : BOwn wr wr.heap.size none 0 0 [] := Own.nil _ _ _ _ _
          have HNIL := Lib.hid hnil
          clear hnil
          go_wp2_with (first
            | (refine wpList_valp rfl (run_mid_op2 _ _ (.tmp 19) (.tmp 20) (.tmp 22) rfl a n c i 8 rfl rfl rfl (by omega)) ?_)
            | (go_at_call 27; refine (refSmall_any (midA a i c) (c - i) 8 8 (rem.take 8) _ HMID.out (by rw [List.length_take, Nat.min_eq_left H8.out]) (by decide) (by omega)).mono ?_; rintro e w' ⟨rfl, rfl⟩; rw [if_neg (by omega), if_neg (by omega), ← HV.out])
            | (refine wpList_valp rfl (run_mid_op2 _ _ (.tmp 37) (.tmp 38) (.tmp 42) rfl a n c (i + 8) v rfl rfl rfl (by omega)) ?_)
            | (at_builtin; go_loud (refine wpList_appB rfl (.tmp 36) (.tmp 43) rfl rfl rfl HNIL.out HLS.out HLN.out (by omega) (Nat.le_refl _) ?_; intro a5 c5 w5 ho5 hch5 hin5; have hg5 : wr.grownBy w5 none := Ch.fresh (World.grownBy.refl wr none) hch5 (fun g _ h => absurd h.1 (by omega)); have HO5 := Lib.hid (show BOwn w5 wr.heap.size a5 v c5 ((rem.drop 8).take v) by simpa using ho5); have HG5 := Lib.hid hg5; have HL5 := Lib.hid (HLI.out.grown hg5); have hb5 : w.heap.size ≤ w5.heap.size := Nat.le_trans HSZ.out hg5.size; have HB5 := Lib.hid hb5; clear ho5 hch5 hin5 hg5 hb5))
            | (at_builtin; refine wpList_push elS rfl (.tmp 45) (.tmp 47) rfl rfl HL5.out.outer (.slice a5 v c5) rfl rfl (by unfold maxLen; omega) (by omega) HB5.out ?_; intro g7 c7 w7 hown7 hgr7; have HO7 := Lib.hid hown7; have HGR7 := Lib.hid hgr7; clear hown7 hgr7))
          go_roundw
          case rel =>
            refine ⟨K + 1, i + 8 + v, _, _, _, _, rfl, by go_num, by omega, LIs.pushC HLI.out HSZ.out HL5.out HO5.out HO7.out HGR7.out, ?_, by omega, Ch.fresh (grownBy_trans HG.out HG5.out) HGR7.out.ch (fun g h1 h2 => by have := (Own.inn HL5.out.outer h2).1; omega)⟩
            have hs := unf_step (l := rem) H8.out (by have h1 := HRL.out; have h2 := HV.out; have h3 := HRR.out; omega)
            rw [HU.out, ← HREM.out, hs, ← HV.out, HREM.out, List.drop_drop, List.drop_drop, ← List.drop_drop, ← HREM.out]
            simp [Option.map_map, Function.comp_def, List.drop_drop, HREM.out]
          case measure => simp [intOf]; omega
    · obtain rfl : i = n := by omega
      have hrem : rem = [] := List.eq_nil_of_length_eq_zero (by rw [HRL.out]; omega)
      have hu2 : unf l = some ps := by rw [HU.out, ← HREM.out, hrem, unf_nil]; simp
      have HU2 := Lib.hid hu2
      have hKp : ps.length = K := by have h1 := HLI.out.len; have h2 := HLI.out.outer.1; simp at h2; omega
      clear hrem hu2
      go_wp2_with fail
      go_ret2
      refine ⟨ao, co, L, ?_, ?_, HG.out⟩
      · unfold unP unE; rw [HU2.out]; simp [hKp]
      · unfold unP; rw [HU2.out]
        show LIs _ _ _ ps.length _ ps _
        rw [hKp]
        exact HLI.out
end Go.Proofs.Ythemlaibjchjpaa
/- append of made zeros to a row that the call owns. -/
namespace Go.Proofs.Ythemlaibjchjpaa
open Go.RowKit

section
variable {P : Program}

theorem zero_cells_one (z : Value) (k : Nat) : Builtin.zeroCells #[z] k = (List.replicate k z).toArray := by
  apply Array.toList_inj.1
  simp [Builtin.zeroCells]
  apply List.ext_getElem
  · simp
  · intro i h1 h2
    simp [Nat.mod_one]

theorem firstCells_own (w : World) {e : TypeId} {base : Nat} {a : Option Addr} {n c : Nat} {xs : List Value} (hown : Own w base e 1 a n c xs) : (Builtin.firstCells 1 n (.slice a n c)).run P w.drew = .ok xs.toArray w.drew := by
  rcases hown.2 with ⟨rfl, rfl⟩ | ⟨g, cur, rfl, hbg, hg, hnc, hcm, hcs, htake⟩
  · have hx : xs = [] := List.eq_nil_of_length_eq_zero (by simpa using hown.1)
    subst hx
    cases a with
    | none => exact run_firstCells_none ..
    | some ad => exact run_firstCells_some (P := P) w.drew 1 0 ad 0 0 [] (by simp) (by simp)
  · exact run_firstCells_some (P := P) w.drew 1 n ⟨g, 0, none⟩ n c xs (by simpa using hown.1) (by
      intro j u hu
      have hadd : (⟨g, 0, none⟩ : Addr).add j = ⟨g, j, none⟩ := by unfold Addr.add; split <;> simp_all
      obtain ⟨hj, rfl⟩ := List.getElem?_eq_some_iff.1 hu
      obtain ⟨g', e1, _, _, hc, _⟩ := hown.cell j hj
      obtain rfl : g = g' := by simpa using e1
      rw [hadd]; exact hc)

theorem run_appz (w : World) {t tn ty e : TypeId} {z : Value} {bytes : Nat} (H : El P t e z 1 bytes) (hz1 : z.cells = #[z]) (ho1 : z.oneCell' = true) {kn : IntKind} (htn : P.underlying tn = some (.int kn)) {base : Nat} {a : Option Addr} {n c : Nat} {xs : List Value} (hown : Own w base e 1 a n c xs)
    (k : Nat) (hk : 0 < k) (h63 : n + k ≤ maxLen) (hbytes : (n + k) * bytes ≤ 140737488355328) (hbase : base ≤ w.heap.size) (kq : IntKind) :
    ∃ g c' w1, (Builtin.append_ #[t, tn] ty #[.slice a n c, .int kq k]).run P w = .ok (.slice (some ⟨g, 0, none⟩) (n + k) c') w1 ∧ Own w1 base e 1 (some ⟨g, 0, none⟩) (n + k) c' (xs ++ List.replicate k z) ∧ GrewP w w1 a c (some ⟨g, 0, none⟩) c' := by
  obtain ⟨ht, ⟨i, hi, hz, hs1, rfl⟩, hzs, hsz⟩ := H
  have hsmall : n + k ≤ 9223372036854775807 := by simp only [maxLen] at h63; omega
  have hxl : xs.length = n := by simpa using hown.1
  have hlen : (xs ++ List.replicate k z).length = (n + k) * 1 := by simp [hxl]
  have hkb : k * i.bytes ≤ 281474976710656 := by have : k * i.bytes ≤ (n + k) * i.bytes := Nat.mul_le_mul_right _ (by omega); omega
  by_cases hroom : n + k ≤ c
  · rcases hown.2 with ⟨rfl, rfl⟩ | ⟨g, cur, rfl, hbg, hg, hnc, hcm, hcs, htake⟩
    · omega
    · have hrl : (List.replicate k z).length = k := by simp
      have hst := run_storeCells_at (P := P) g n e (List.replicate k z) 0 cur w hg (by simp; omega) (by intro v hv; rw [List.eq_of_mem_replicate hv]; exact ho1)
      simp only [Nat.add_zero, hrl] at hst
      have hw : IntKind.i64.wrap (k : Int) = k := by rw [IntKind.wrap_i64]; omega
      have hneg : ¬ ((k : Int) < 0) := by omega
      have hadd : (⟨g, 0, none⟩ : Addr).add n = ⟨g, n, none⟩ := by unfold Addr.add; split <;> simp_all
      have h48i : ¬ (281474976710656 < (k : Int) * (i.bytes : Int)) := by rw [← Int.natCast_mul]; omega
      have hk0 : k ≠ 0 := by omega
      have hr : (Builtin.append_ #[t, tn] ty #[.slice (some ⟨g, 0, none⟩) n c, .int kq k]).run P w = .ok (.slice (some ⟨g, 0, none⟩) (n + k) c) (w.setRow g (cur.toList.take n ++ List.replicate k z ++ cur.toList.drop (n + k)).toArray) := by
        simp [Builtin.append_, run_underlying ht, run_underlying htn, sizeOf, typeInfo, zeroValue, hi, hz, hz1, hs1, asInt, asIntOf, hw, hneg, h48i, hroom, hk0, zero_cells_one, hadd, hst]
      refine ⟨_, _, _, hr, ⟨hlen, .inr ⟨g, _, rfl, hbg, setRow_heap w g cur _ e _ hg, hroom, hcm, ?_, ?_⟩⟩, .inl ⟨g, rfl, rfl, by omega, rfl, ⟨rfl, rfl, rfl, by simp, fun k _ hk => setRow_other w g k _ (fun e => hk (by simp [e]))⟩⟩⟩
      · simp
        omega
      · have ht' : List.take n cur.toList = xs := by rw [← htake, Nat.mul_one]
        rw [ht', ← hlen]
        exact List.take_left
  · have hr := Lib.run_append_grow_zeros (P := P) w t tn ty e i z kq kn ht htn hi hz a n c xs (by rw [hs1]; exact firstCells_own w hown) k hk (by omega) (by omega) (by omega) hkb (growslice_fits (by omega) hbytes)
    have hge := grownCap_ge w (n + k) c e
    have hcm : grownCap w (n + k) c e ≤ maxLen := grownCap_le_maxLen w (n + k) c e h63
    refine ⟨_, _, _, hr, ⟨hlen, .inr ⟨w.heap.size, _, rfl, hbase, heap_alloc_new w.drew _, hge, hcm, ?_, ?_⟩⟩, .inr ⟨_, rfl, Nat.le_refl _, ⟨rfl, rfl, rfl, by simp, fun k hk _ => Below.heap_alloc w.drew _ k hk⟩⟩⟩
    · rw [hz1, zero_cells_one, zero_cells_one]
      simp [hxl]
      omega
    · rw [hz1, zero_cells_one, zero_cells_one]
      simp only [Array.toList_append, ← hlen]
      exact List.take_left

end

end Go.Proofs.Ythemlaibjchjpaa
/- slices.Grow from nothing, slices.Concat, octet.Join. -/
namespace Go.Proofs.Ythemlaibjchjpaa
open Go.RowKit

theorem run_app_empty (w : World) (a x : Option Addr) (n c c2 : Nat) (hn : n ≤ c) (hc : c ≤ maxLen) (ha : a = none → c = 0) (ty : TypeId) : (Builtin.append_ #[22, 22] ty #[.slice a n c, .slice x 0 c2]).run Try.prog w = .ok (.slice a n c) w := by
  obtain ⟨i, hi, hz, hs, hb⟩ := elB.info
  unfold maxLen at hc
  cases a with
  | none =>
    obtain rfl : c = 0 := ha rfl
    obtain rfl : n = 0 := by omega
    cases x <;> simp [Builtin.append_, run_underlying Try.underlying22, sizeOf, typeInfo, hi, hs, Builtin.lenOf, Builtin.firstCells, loadCells, loadCellsFrom]
  | some ad =>
    have hnot : ¬ c < n := by omega
    cases x <;> simp [Builtin.append_, run_underlying Try.underlying22, sizeOf, typeInfo, hi, hs, Builtin.lenOf, Builtin.firstCells, loadCells, loadCellsFrom, hn, hnot, storeCells]

theorem own_cut0 {w : World} {base : Nat} {e : TypeId} {a : Option Addr} {n c : Nat} {xs : List Value} (h : Own w base e 1 a n c xs) : Own w base e 1 a 0 c [] := by
  rcases h.2 with ⟨h0, h1⟩ | ⟨g, cur, ha, hb, hh, hn, hm, hs, ht⟩
  · exact ⟨rfl, .inl ⟨rfl, h1⟩⟩
  · exact ⟨rfl, .inr ⟨g, cur, ha, hb, hh, Nat.zero_le _, hm, hs, by simp⟩⟩

set_option maxRecDepth 100000 in
set_option maxHeartbeats 1000000 in
theorem grow_n (n : Nat) (w : World) (hn : n ≤ 4000000000) :
    Calls Try.prog 80 #[.slice none 0 0, .int .i64 (n : Int)] w fun e w' => ∃ a c, e = .returned (.slice a 0 c) ∧ BOwn w' w.heap.size a 0 c [] ∧ w.grownBy w' none := by
  rcases Nat.eq_zero_or_pos n with rfl | hpos
  · go_enter Try.func80, Try.ntmps80
    go_wp2_with fail
    go_ret
    exact ⟨none, 0, rfl, Own.nil _ _ _ _ _, World.grownBy.refl _ _⟩
  · obtain ⟨g, c', w1, hrun, ho, hgr⟩ := run_appz (P := Try.prog) (ty := 22) w elB rfl rfl Try.underlying3 (Own.nil w w.heap.size 5 1 none) n hpos (by unfold maxLen; omega) (by omega) (Nat.le_refl _) .i64
    have hg := hgr.grew.grown (Own.nil w w.heap.size 5 1 none) (World.grownBy.refl _ _) (Nat.le_refl _)
    have hd0 : decide ((n : Int) < 0) = false := by simp
    have hd1 : decide ((0 : Int) < (n : Int)) = true := by simp; omega
    have HO := Lib.hid ho
    have HG := Lib.hid hg
    have HRUN := Lib.hid hrun
    clear ho hg hgr hrun
    go_enter Try.func80, Try.ntmps80
    go_wp2_with (at_builtin; refine Lib.wpList_append_run _ rfl _ _ _ _ rfl _ _ rfl rfl _ _ HRUN.out ?_)
    go_ret
    exact ⟨_, c', rfl, own_cut0 HO.out, HG.out⟩

set_option maxRecDepth 100000 in
set_option maxHeartbeats 4000000 in
theorem concat_n (a : Option Addr) (c K : Nat) (L : List Sl) (bs : List (List UInt8)) (w : World) (hL : LLies w a L bs) (hK : bs.length = K) (hf : bs.flatten.length ≤ 1000000000) (hK2 : K ≤ 4000000000) :
    Calls Try.prog 69 #[.slice a K c] w fun e w' => ∃ a' m c', e = .returned (.slice a' m c') ∧ BOwn w' w.heap.size a' m c' bs.flatten ∧ w.grownBy w' none := by
  have pre : ∀ i, (bs.take i).flatten.length ≤ bs.flatten.length := fun i => by
    have h := congrArg List.length (congrArg List.flatten (List.take_append_drop i bs))
    rw [List.flatten_append, List.length_append] at h
    omega
  have HLL := Lib.hid hL
  have HK := Lib.hid hK
  have HP := Lib.hid pre
  have HF := Lib.hid hf
  clear hL hK pre hf
  go_enter Try.func69, Try.ntmps69
  go_wp2_with fail
  go_loopw [3, 11] (fun vs vi wr => ∃ i s : Nat, i ≤ K ∧ Hid (s = (bs.take i).flatten.length) ∧ vi = .int .i64 i ∧ vs = .int .i64 s ∧ w = wr) (fun _ vi _ => K - (intOf vi).toNat)
  case atStart => exact ⟨0, 0, by omega, Lib.hid (by simp), rfl, rfl, rfl⟩
  case round =>
    obtain ⟨i, s, hi, HS, rfl, rfl, rfl⟩ := hrel
    by_cases hlt : i < K
    · have hib : i < bs.length := by rw [HK.out]; exact hlt
      have hiL : i < L.length := by rw [HLL.out.2.1]; exact hib
      obtain ⟨g, o, haa, hc⟩ := HLL.out.1 i (by rw [List.length_map]; exact hiL)
      have hin := HLL.out.2.2 i hiL hib
      subst haa
      obtain ⟨b, hb⟩ : ∃ b, b = bs[i] := ⟨_, rfl⟩
      obtain ⟨sl, hsl⟩ : ∃ sl, sl = L[i] := ⟨_, rfl⟩
      rw [← hb, ← hsl] at hin
      have hc' : w.cell? ⟨g, o + i, none⟩ = some sl.val := by rw [hc, hsl]; simp
      obtain ⟨sa, sn, sc⟩ := sl
      have hsn : sn = b.length := hin.2
      have hnext : s + sn = (bs.take (i + 1)).flatten.length := by
        rw [List.take_succ_eq_append_getElem hib, List.flatten_append, List.length_append, ← hb, HS.out, hsn]
        simp
      have hp := HP.out (i + 1)
      rw [← hnext] at hp
      have hs1 := HF.out
      have hcc : w.cell? ⟨g, o + i, none⟩ = some (.slice sa sn sc) := hc'
      have hw : IntKind.i64.wrap ((s : Int) + (sn : Int)) = (s : Int) + (sn : Int) := IntWalk.i64_in _ (by omega)
      have hd0 : decide ((s : Int) + (sn : Int) < 0) = false := by simp; omega
      have HNX := Lib.hid hnext
      clear hin hb hsl hc hc' hsn hnext hp hs1
      go_wp2_with fail
      go_roundw
      case rel => exact ⟨i + 1, s + sn, by omega, HNX, by go_num, by first | rfl | go_num, by first | rfl | trivial⟩
      case measure => simp [intOf]; omega
    · obtain rfl : i = K := by omega
      have htk : bs.take i = bs := List.take_of_length_le (by rw [HK.out]; exact Nat.le_refl _)
      have hs2 : s ≤ 4000000000 := by have h1 := HS.out; have h2 := HF.out; rw [htk] at h1; omega
      have HTK := Lib.hid htk
      clear htk
      go_wp2_with fail
      refine (grow_n s w hs2).mono ?_
      rintro e w1 ⟨a1, c1, rfl, ho, hg⟩
      have HO := Lib.hid ho
      have HG := Lib.hid hg
      clear ho hg
      go_wp2_with fail
      go_loopw [6, 27] (fun v vi wr => ∃ (j r : Nat) (a' : Option Addr) (c' : Nat), j ≤ i ∧ vi = .int .i64 j ∧ v = .slice a' r c' ∧ BOwn wr w.heap.size a' r c' (bs.take j).flatten ∧ w.grownBy wr none) (fun _ vi _ => i - (intOf vi).toNat)
      case atStart => exact ⟨0, 0, a1, c1, by omega, rfl, rfl, HO.out, HG.out⟩
      case round =>
        obtain ⟨j, r, a', c', hj, rfl, rfl, ho, hg⟩ := hrel
        replace HO := Lib.hid ho
        replace HG := Lib.hid hg
        have HR := Lib.hid (BOwn.len ho)
        clear ho hg
        by_cases hlt2 : j < i
        · have hib : j < bs.length := by rw [HK.out]; exact hlt2
          have hLw := HLL.out.grown HG.out
          have hiL : j < L.length := by rw [HLL.out.2.1]; exact hib
          obtain ⟨g, o, haa, hc⟩ := hLw.1 j (by rw [List.length_map]; exact hiL)
          have hin := hLw.2.2 j hiL hib
          subst haa
          obtain ⟨b, hb⟩ : ∃ b, b = bs[j] := ⟨_, rfl⟩
          obtain ⟨sl, hsl⟩ : ∃ sl, sl = L[j] := ⟨_, rfl⟩
          rw [← hb, ← hsl] at hin
          have hc' : wr.cell? ⟨g, o + j, none⟩ = some sl.val := by rw [hc, hsl]; simp
          obtain ⟨sa, sn, sc⟩ := sl
          obtain ⟨hbl, hsn⟩ := hin
          have hsn' : sn = b.length := hsn
          have hbl' : BLies wr sa b := hbl
          have hstep : (bs.take (j + 1)).flatten = (bs.take j).flatten ++ b := by
            rw [List.take_succ_eq_append_getElem hib, List.flatten_append, ← hb]
            simp
          have hp := HP.out (j + 1)
          rw [hstep, List.length_append, HR.out, ← hsn'] at hp
          have hff := HF.out
          have hsz := HG.out.size
          have HB := Lib.hid hbl'
          have HSN := Lib.hid hsn'
          have HST := Lib.hid hstep
          have hcc : wr.cell? ⟨g, o + j, none⟩ = some (.slice sa sn sc) := hc'
          have hrn : r + sn ≤ 1000000000 := by omega
          clear hb hsl hc hc' hsn hsn' hbl hbl' hstep hp hff hLw
          rcases Nat.eq_zero_or_pos sn with rfl | hpos
          · have hb0 : b = [] := List.eq_nil_of_length_eq_zero HSN.out.symm
            have hcap := HO.out.cap
            have hno : a' = none → c' = 0 := fun h => by
              by_cases h0 : 0 < c'
              · obtain ⟨g', e, _⟩ := Own.block HO.out h0
                rw [h] at e; cases e
              · omega
            have HRE := Lib.hid (fun W => run_app_empty (ty := 22) W a' sa r c' sc hcap.1 hcap.2 hno)
            clear hno hcap
            go_wp2_with (at_builtin; go_loud (refine Lib.wpList_append_run _ rfl _ _ _ _ rfl _ _ rfl rfl _ _ (HRE.out _) ?_))
            go_roundw
            case rel => exact ⟨j + 1, r, a', c', by omega, by go_num, rfl, by rw [HST.out, hb0, List.append_nil]; exact HO.out, HG.out⟩
            case measure => simp [intOf]; omega
          · obtain ⟨bb, boff, rfl⟩ := HB.out.addr (by rw [← HSN.out]; omega)
            go_wp2_with (at_builtin; refine wpList_app elB rfl (.tmp 31) (.tmp 32) rfl rfl HO.out ⟨bb, boff, none⟩ sn sc (b.map bval) rfl (by rw [List.length_map, ← HSN.out, Nat.mul_one]) HB.out.news (bval_one b) (by unfold maxLen; omega) (by omega) hsz (by omega) ?_; intro g cap w2 hown2 hgr; have HO2 := Lib.hid hown2; have HG2 := Lib.hid (hgr.grew.grown HO.out HG.out (Nat.le_refl _)); clear hown2 hgr)
            go_roundw
            case rel =>
              refine ⟨j + 1, r + sn, _, _, by omega, by go_num, rfl, ?_, HG2.out⟩
              rw [HST.out]
              unfold BOwn
              rw [List.map_append]
              exact HO2.out
            case measure => simp [intOf]; omega
        · obtain rfl : j = i := by omega
          rw [HTK.out] at HO
          go_wp2_with fail
          go_ret
          exact ⟨_, _, _, rfl, HO.out, HG.out⟩

set_option maxRecDepth 100000 in
theorem joinB_n (a : Option Addr) (c K : Nat) (L : List Sl) (bs : List (List UInt8)) (w : World) (hL : LLies w a L bs) (hK : bs.length = K) (hf : bs.flatten.length ≤ 1000000000) (hK2 : K ≤ 4000000000) :
    Calls Try.prog 35 #[.slice a K c] w fun e w' => ∃ a' m c', e = .returned (.slice a' m c') ∧ BOwn w' w.heap.size a' m c' bs.flatten ∧ w.grownBy w' none := by
  have HC := Lib.hid (concat_n a c K L bs w hL hK hf hK2)
  clear hL hK hf hK2
  go_enter Try.func35, Try.ntmps35
  go_wp2_with fail
  refine HC.out.mono ?_
  rintro e w1 ⟨a', m, c', rfl, ho, hg⟩
  have HO := Lib.hid ho
  have HG := Lib.hid hg
  clear ho hg
  go_wp2_with fail
  go_ret
  exact ⟨a', m, c', rfl, HO.out, HG.out⟩

end Go.Proofs.Ythemlaibjchjpaa
/- Regions that append: what they may count on. -/
namespace Go.Proofs.Ythemlaibjchjpaa
open Go.RowKit

theorem clo_ch (S : Nat → Prop) (w0 : World) : Clo (fun u => Ch S w0 u) := fun _ _ h g => h.then g
theorem wp_skip_op {P : Program} {o : Oper} {a : Act} {w w1 : World} {K : Act → World → Prop} {Q : Exit → Act → World → Prop} (h : (execOp a.eval o).run P w = .ok .skip w1) (hk : K (a.put o.dst undef) w1) : o.wp P a w K Q := by
  unfold Oper.wp
  rw [h, Oper.upon_skip]
  exact hk
/-- what a region may count on round an append: of what was there the one row alone may have changed, and it still begins as it did -/
def AppS (w0 : World) (base : Nat) (e : TypeId) (a : Option Addr) (n c : Nat) (xs : List Value) (u : World) : Prop := Ch (In a c) w0 u ∧ Own u base e 1 a n c xs
theorem clo_app (w0 : World) (base : Nat) (e : TypeId) (a : Option Addr) (n c : Nat) (xs : List Value) : Clo (AppS w0 base e a n c xs) := fun _ _ h g => ⟨h.1.then g, Own.ch h.2 (Ch.ofNone g (fun _ => False)) (fun _ _ _ h => h)⟩
theorem clo_and {S T : World → Prop} (h : Clo S) (k : Clo T) : Clo (fun u => S u ∧ T u) := fun u v hs hg => ⟨h u v hs.1 hg, k u v hs.2 hg⟩
theorem clo_row (g : Nat) (t : TypeId) (cs : Array Value) : Clo (fun u => Row u g t cs) := fun _ _ h hg => h.grown hg
theorem own_behind {w w1 : World} {base : Nat} {e : TypeId} {a a2 : Option Addr} {n c c2 : Nat} {xs ys : List Value} (h : Own w base e 1 a n c xs) (h1 : Own w1 base e 1 a2 (n + 1) c2 (xs ++ ys)) (hg : GrewP w w1 a c a2 c2) : Own w1 base e 1 a n c xs := by
  rcases hg with ⟨g, rfl, rfl, hc, rfl, hg⟩ | ⟨g, _, _, hg⟩
  · rcases h1.2 with ⟨h0, _⟩ | ⟨g', cur, ha, hb, hh, hn, hm, hs, ht⟩
    · omega
    · refine ⟨h.1, .inr ⟨g', cur, ha, hb, hh, by omega, hm, hs, ?_⟩⟩
      have h2 := congrArg (List.take (n * 1)) ht
      rw [List.take_take, Nat.min_eq_left (by omega)] at h2
      rw [h2, List.take_left' h.1]
  · exact Own.ch h (Ch.ofNone hg (fun _ => False)) (fun _ _ _ h => h)
theorem row_in {w : World} {g : Nat} {t : TypeId} {cs : Array Value} (h : Row w g t cs) {base : Nat} {e : TypeId} {size : Nat} {a : Option Addr} {n c : Nat} {xs : List Value} (ho : Own w base e size a n c xs) (hne : t ≠ e) : ¬ In a c g := by
  rintro ⟨hc, ha⟩
  rcases ho.2 with ⟨_, h0⟩ | ⟨g', cur, ha', _, hh, _⟩
  · omega
  rw [ha] at ha'
  injection ha' with ha'; injection ha' with ha'
  subst ha'
  have h' : w.heap[g]? = some (.cells cs t (0, 0)) := h
  rw [h'] at hh
  injection hh with hh
  injection hh with _ h2 _
  exact hne h2
theorem run_app_op {P : Program} (w w1 : World) (ev : Operand → Value) {o : Oper} {t : TypeId} (s x : Operand) (ho : o.op = .call { callee := .builtin .append, args := #[s, x], argTypes := #[t, t] }) (v : Value) (h : (Builtin.append_ #[t, t] o.type #[ev s, ev x]).run P w = .ok v w1) : (execOp ev o).run P w = .ok (.value v) w1 := by
  unfold execOp
  simp only [ho, resolve, invoke, builtin, Sem.run_bind, Sem.run_pure, Result.andThen_ok, List.map_toArray, List.map_cons, List.map_nil, h]

/-- an append that has room stays where it is -/
theorem run_app_room {P : Program} (w : World) {t ty e : TypeId} {z : Value} {size bytes : Nat} (H : El P t e z size bytes) {base : Nat} {a : Option Addr} {n c : Nat} {xs : List Value} (hown : Own w base e size a n c xs)
    (ad : Addr) (m c2 : Nat) (news : List Value) (hl : news.length = m * size) (hnews : ∀ j u, news[j]? = some u → w.cell? (ad.add j) = some u) (h1 : ∀ u ∈ news, u.oneCell' = true) (hm : 0 < m) (hroom : n + m ≤ c) :
    ∃ w1, (Builtin.append_ #[t, t] ty #[.slice a n c, .slice (some ad) m c2]).run P w = .ok (.slice a (n + m) c) w1 ∧ Own w1 base e size a (n + m) c (xs ++ news) ∧ GrewP w w1 a c a c := by
  obtain ⟨ht, ⟨i, hi, hz, rfl, rfl⟩, hzs, hsz⟩ := H
  have hlen : (xs ++ news).length = (n + m) * i.size := by rw [List.length_append, hown.1, hl, Nat.add_mul]
  rcases hown.2 with ⟨rfl, rfl⟩ | ⟨g, cur, rfl, hbg, hg, hnc, hcm, hcs, htake⟩
  · omega
  · have hfit : n * i.size + news.length ≤ cur.size := by rw [hl, hcs, ← Nat.add_mul]; exact Nat.mul_le_mul_right _ hroom
    have hr := run_append_room (P := P) w t ty e i ht hi g n c cur hg ad m c2 news hl hnews h1 hroom hfit
    refine ⟨_, hr, ⟨hlen, .inr ⟨g, _, rfl, hbg, setRow_heap w g cur _ e _ hg, hroom, hcm, ?_, ?_⟩⟩, .inl ⟨g, rfl, rfl, by omega, rfl, ⟨rfl, rfl, rfl, by simp, fun k _ hk => setRow_other w g k _ (fun e => hk (by simp [e]))⟩⟩⟩
    · simp only [List.size_toArray, List.length_append, List.length_take, List.length_drop, Array.length_toList]
      omega
    · rw [htake, ← hlen]
      exact List.take_left
/-- room that is made, empty as yet -/
theorem wpList_mkRoom {P : Program} {ops : Array Oper} {rest : List Oper} {o : Oper} {a : Act} {w : World} {Q : Exit → Act → World → Prop} {t e : TypeId} {z : Value} {bytes : Nat} (H : El P t e z 1 bytes) (hg : o.guard = none) (l c : Operand) (hop : o.op = Op.makeSlice t l c)
    (n : Nat) (hl : a.eval l = .int .i64 0) (hc : a.eval c = .int .i64 (n : Int)) (hn : bytes * n ≤ 281474976710656) (hm : n ≤ maxLen)
    (h : ∀ W, W.heap.size = w.heap.size + 1 → w.grownBy W none → Own W w.heap.size e 1 (some ⟨w.heap.size, 0, none⟩) 0 n [] → wpList P ops Q rest (a.put o.dst (.slice (some ⟨w.heap.size, 0, none⟩) 0 n)) W) :
    wpList P ops Q (o :: rest) a w := by
  obtain ⟨ht, ⟨i, hi, hz, hs, rfl⟩, hzs, hsz⟩ := H
  have hm' : (n : Int) ≤ 9223372036854775807 := by simp only [maxLen] at hm; omega
  have hb' : (i.bytes : Int) * (n : Int) ≤ 281474976710656 := by
    have h : ((i.bytes * n : Nat) : Int) ≤ 281474976710656 := by omega
    rwa [Int.natCast_mul] at h
  have hrun := run_make (P := P) w t e i z ht hi hz .i64 .i64 0 n (Int.le_refl _) (by omega) hb' hm'
  simp only [Int.toNat_zero, Int.toNat_natCast, hs, Nat.mul_one] at hrun
  refine wpList_plain hg fun K hK' => ?_
  unfold Oper.wp
  simp [execOp, hop, hl, hc, hrun, Result.andThen]
  exact hK' _ _ (h _ (by simp) (World.grownBy_alloc w _ none) ⟨rfl, .inr ⟨w.heap.size, _, rfl, Nat.le_refl _, heap_alloc_new w _, Nat.zero_le _, hm, by rw [size_madeCells, Nat.mul_one], rfl⟩⟩)

end Go.Proofs.Ythemlaibjchjpaa
/- LentLists: a list of lists in memory of its own, with marks behind. -/
namespace Go.Proofs.Ythemlaibjchjpaa
open Go.RowKit

/-- the slices without their marks -/
def preS (L : List Sl) : List Sl := L.map fun s => ⟨s.a, s.n - 70, s.c⟩
theorem preS_len (L : List Sl) : (preS L).length = L.length := by simp [preS]
/-- one list more, told by its slices -/
theorem LIs.push' {w w1 w2 : World} {base : Nat} {a : Option Addr} {n c : Nat} {bs : List (List UInt8)} {L : List Sl} (h : LIs w base a n c bs L) (hb : base ≤ w.heap.size) (hg : w.grownBy w1 none)
    {a' : Option Addr} {n' c' : Nat} {b : List UInt8} (ho : BOwn w1 w.heap.size a' n' c' b) {a2 : Option Addr} {c2 : Nat}
    (hs : Own w2 base 22 1 a2 (n + 1) c2 (L.map Sl.val ++ [.slice a' n' c'])) (hgr : GrewP w1 w2 a c a2 c2) : LIs w2 base a2 (n + 1) c2 (bs ++ [b]) (L ++ [⟨a', n', c'⟩]) := by
  obtain ⟨h1, h2, h3, h4⟩ := h
  have h1' : SOwn w1 base a n c L := Own.grownNone h1 hg
  have hin : ∀ i (h : i < L.length) (h' : i < bs.length), BOwn w2 base (L[i]).a (L[i]).n (L[i]).c bs[i] := fun i h h' => Own.grewOther ((h3 i h h').grown hg) h1' hgr (by decide)
  have hnew : BOwn w2 base a' n' c' b := Own.grewOther (ho.mono hb) h1' hgr (by decide)
  refine ⟨?_, by simp [h2], ?_, ?_⟩
  · unfold SOwn; rw [List.map_append]; exact hs
  · intro i hi hi'
    by_cases e : i < L.length
    · have e' : i < bs.length := by omega
      rw [List.getElem_append_left e, List.getElem_append_left e']
      exact hin i e e'
    · simp only [List.length_append, List.length_singleton] at hi
      obtain rfl : i = L.length := by omega
      have e2 : (L ++ [⟨a', n', c'⟩])[L.length] = (⟨a', n', c'⟩ : Sl) := by simp
      have e3 : (bs ++ [b])[L.length] = b := by simp [h2]
      rw [e2, e3]
      exact hnew
  · have old : ∀ i (hi : i < L.length) g, (L[i]).blk = some g → g < w.heap.size := by
      intro i hi g hgb
      have hbo := h3 i hi (by omega)
      obtain ⟨hc, ha⟩ := hbo.blk hgb
      obtain ⟨g', ha', _, hlt⟩ := Own.block hbo hc
      rw [ha] at ha'
      obtain rfl : g = g' := by simpa using ha'
      exact hlt
    have new : ∀ g, (⟨a', n', c'⟩ : Sl).blk = some g → w.heap.size ≤ g := by
      intro g hgb
      have hbo : BOwn w1 w.heap.size (⟨a', n', c'⟩ : Sl).a (⟨a', n', c'⟩ : Sl).n (⟨a', n', c'⟩ : Sl).c b := ho
      obtain ⟨hc, ha⟩ := hbo.blk hgb
      obtain ⟨g', ha', hlt, _⟩ := Own.block hbo hc
      rw [ha] at ha'
      obtain rfl : g = g' := by simpa using ha'
      exact hlt
    intro i j hi hj hij g hgi hgj
    simp only [List.length_append, List.length_singleton] at hi hj
    by_cases ei : i < L.length
    · by_cases ej : j < L.length
      · rw [List.getElem_append_left ei] at hgi
        rw [List.getElem_append_left ej] at hgj
        exact h4 i j ei ej hij g hgi hgj
      · obtain rfl : j = L.length := by omega
        rw [List.getElem_append_left ei] at hgi
        have e2 : (L ++ [⟨a', n', c'⟩])[L.length]'(by simp) = (⟨a', n', c'⟩ : Sl) := by simp
        rw [e2] at hgj
        have := old i ei g hgi
        have := new g hgj
        omega
    · obtain rfl : i = L.length := by omega
      have ej : j < L.length := by omega
      rw [List.getElem_append_left ej] at hgj
      have e2 : (L ++ [⟨a', n', c'⟩])[L.length]'(by simp) = (⟨a', n', c'⟩ : Sl) := by simp
      rw [e2] at hgi
      have := old j ej g hgj
      have := new g hgi
      omega
theorem LIs.ch {w w' : World} {base : Nat} {a : Option Addr} {n c : Nat} {bs : List (List UInt8)} {L : List Sl} {S : Nat → Prop} (h : LIs w base a n c bs L) (hc : Ch S w w') (ho : ∀ g, In a c g → ¬ S g) (hi : ∀ i (hi : i < L.length) g, In (L[i]).a (L[i]).c g → ¬ S g) : LIs w' base a n c bs L :=
  ⟨Own.ch h.outer hc (fun h0 g e => ho g ⟨h0, e⟩), h.len, fun i h1 h2 => Own.ch (h.inner i h1 h2) hc (fun h0 g e => hi i h1 g ⟨h0, e⟩), h.apart⟩
theorem LIs.chTy {w w' : World} {base base' : Nat} {a a' : Option Addr} {n c n' c' : Nat} {bs : List (List UInt8)} {L : List Sl} {xs : List Value} (h : LIs w base a n c bs L) (hc : Ch (In a' c') w w') (h' : Own w base' 22 1 a' n' c' xs) (ho : ∀ g, In a c g → ¬ In a' c' g) : LIs w' base a n c bs L :=
  h.ch hc ho (fun i hi g hg hg' => by
    have hin := h.inner i hi (by have := h.len; omega)
    obtain ⟨h1, h2⟩ := hg
    obtain ⟨h3, h4⟩ := hg'
    rw [h2] at hin
    rw [h4] at h'
    exact own_ne hin h' h1 h3 (by decide) rfl)

set_option maxRecDepth 100000 in
set_option maxHeartbeats 4000000 in
theorem lentLists_n (a : Option Addr) (c n : Nat) (L : List Sl) (bs : List (List UInt8)) (w : World) (hL : LLies w a L bs) (hn : bs.length = n) (hb : ∀ b ∈ bs, b.length ≤ 4000000000) (hn2 : n ≤ 4000000000) :
    Calls Try.prog 52 #[.slice a n c] w fun e w' => ∃ aF cF aE cE Es Ms, e = .returned (.agg #[.slice aF n cF, .slice aF (n + 70) cF, .slice aE n cE]) ∧ LIs w' w.heap.size aE n cE (bs.map lent) Es ∧
      SOwn w' w.heap.size aF (n + 70) cF (preS Es ++ Ms) ∧ Ms.length = 70 ∧ (∀ i (h : i < Ms.length), BOwn w' w.heap.size (Ms[i]).a 2 (Ms[i]).c [UInt8.ofNat i, 99] ∧ (Ms[i]).n = 2) ∧ w.grownBy w' none := by
  obtain ⟨il, hil, hilz, hils, _⟩ := info_parts (show (Try.prog.info? 88).map (fun i => (i.zero, i.size, i.bytes)) = some (some (.agg #[.slice none 0 0, .slice none 0 0, .slice none 0 0]), 3, 72) by kernel_rfl)
  have hLl : L.length = n := by rw [hL.2.1, hn]
  have HL := Lib.hid hL
  have HN := Lib.hid hn
  have HB := Lib.hid hb
  have HLL := Lib.hid hLl
  clear hL hn hb hLl
  go_enter Try.func52, Try.ntmps52
  go_upto_region 1 with (refine wpList_made rfl rfl hil hilz ?_; intro w1 hs1 hg1 hr1; have HS1 := Lib.hid hs1; have HG1 := Lib.hid hg1; have HR1 := Lib.hid (show Row w1 w.heap.size 88 #[.slice none 0 0, .slice none 0 0, .slice none 0 0] from hr1); clear hs1 hg1 hr1)
  go_wp2_with (refine wpList_made rfl rfl hil hilz ?_; intro w2 hs2 hg2 hr2; have HG2 := Lib.hid (grownBy_trans HG1.out hg2); have HR2 := Lib.hid (show Row w2 w1.heap.size 88 #[.slice none 0 0, .slice none 0 0, .slice none 0 0] from hr2); have HT2 := Lib.hid (HR1.out.grown hg2); clear hs2 hg2 hr2)
  obtain ⟨b3, hb3⟩ : ∃ b3, b3 = w1.heap.size := ⟨_, rfl⟩
  have hb3w : w.heap.size < b3 := by rw [hb3]; exact HR1.out.lt
  rw [← hb3] at HR2 ⊢
  clear hb3 HR1 HS1 HG1
  go_loopw [4] (fun vi wr => ∃ (i : Nat) (aF aE : Option Addr) (cF cE : Nat) (Es : List Sl), i ≤ n ∧ vi = .int .i64 i ∧ Row wr b3 88 #[.slice none 0 0, .slice aF i cF, .slice aE i cE] ∧ Row wr w.heap.size 88 #[.slice none 0 0, .slice none 0 0, .slice none 0 0] ∧ LIs wr w.heap.size aE i cE ((bs.take i).map lent) Es ∧ SOwn wr w.heap.size aF i cF (preS Es) ∧ (∀ g, In aE cE g → ¬ In aF cF g) ∧ w.grownBy wr none) (fun vi _ => n - (intOf vi).toNat)
  case atStart => exact ⟨0, none, none, 0, 0, [], by omega, rfl, HR2.out, HT2.out, ⟨Own.nil _ _ _ _ _, rfl, fun i h => absurd h (by simp), fun i j h => absurd h (by simp)⟩, Own.nil _ _ _ _ _, fun g h => absurd h.1 (by omega), HG2.out⟩
  case round =>
    obtain ⟨i, aF, aE, cF, cE, Es, hi, rfl, hrow, hrt, hE, hF, hdis, hg⟩ := hrel
    have HROW := Lib.hid hrow
    have HT := Lib.hid hrt
    have HE := Lib.hid hE
    have HF := Lib.hid hF
    have HD := Lib.hid hdis
    have HG := Lib.hid hg
    clear hrow hrt hE hF hdis hg HR2 HT2 HG2
    by_cases hlt : i < n
    · obtain ⟨ga, oa, haa, hcell⟩ := (HL.out.grown HG.out).1 i (by rw [List.length_map, HLL.out]; exact hlt)
      subst haa
      obtain ⟨s, hs⟩ : ∃ s, s = L[i]'(by rw [HLL.out]; exact hlt) := ⟨_, rfl⟩
      obtain ⟨b, hbe⟩ : ∃ b, b = bs[i]'(by rw [HN.out]; exact hlt) := ⟨_, rfl⟩
      have hsb := HL.out.2.2 i (by rw [HLL.out]; exact hlt) (by rw [HN.out]; exact hlt)
      rw [← hs, ← hbe] at hsb
      have hcell2 : wr.cell? ⟨ga, oa + i, none⟩ = some s.val := by rw [hcell, hs]; simp
      have hbl : b.length ≤ 4000000000 := HB.out b (by rw [hbe]; exact List.getElem_mem _)
      have htk : (bs.take (i + 1)).map lent = (bs.take i).map lent ++ [lent b] := by rw [List.take_succ_eq_append_getElem (by rw [HN.out]; exact hlt), List.map_append, hbe]; rfl
      obtain ⟨sa, m, sc⟩ := s
      obtain ⟨hsl, hsn⟩ := hsb
      have hsn' : b.length = m := hsn.symm
      have hsl' : BLies w sa b := hsl
      have hgw : ga < w.heap.size := by
        obtain ⟨g', o', e, hc⟩ := HL.out.1 i (by rw [List.length_map, HLL.out]; exact hlt)
        injection e with e; injection e with e1 e2
        subst e1
        exact World.block_lt_of_cell? w _ hc
      have HSL := Lib.hid hsl'
      have HSN := Lib.hid hsn'
      have HTK := Lib.hid htk
      have hcv : wr.cell? ⟨ga, oa + i, none⟩ = some (.slice sa m sc) := hcell2
      have HCV := Lib.hid hcv
      have hml : m ≤ 4000000000 := by omega
      clear hcell hcell2 hs hbe hsl hsn hsn' hsl' htk hbl
      go_wp2_with fail
      clear hcv
      refine (lent_n sa sc m b wr (HSL.out.grown HG.out) HSN.out hml).mono ?_
      rintro e' w4 ⟨gB, cB, rfl, hob, hg4⟩
      have hcB := hob.cap.1
      have HOB := Lib.hid hob
      have HG4 := Lib.hid hg4
      have HROW4 := Lib.hid (HROW.out.grown hg4)
      have c2 := Row.cell HROW4.out 2
      have f2 := Row.frozen HROW4.out 2
      simp at c2
      have hE4 : Own w4 w.heap.size 22 1 aE i cE (Es.map Sl.val) := Own.ch HE.out.outer (Ch.ofNone hg4 (fun _ => False)) (fun _ _ _ h => h)
      have HE4 := Lib.hid hE4
      clear hob hg4 hE4
      go_upto_region 7 with (at_builtin; refine wpList_push elS rfl (.tmp 19) (.tmp 21) rfl rfl HE4.out (.slice (some ⟨gB, 0, none⟩) (m + 70) cB) rfl rfl (by unfold maxLen; omega) (by omega) (by have := HG4.out.size; have := HG.out.size; omega) ?_; intro gE cE2 w5 hown5 hgr5; have HO5 := Lib.hid hown5; have HGR5 := Lib.hid hgr5; have HROW5 := Lib.hid (HROW4.out.ch hgr5.ch (row_in HROW4.out HE4.out (by decide))); have c25 := Row.cell HROW5.out 2; have f25 := Row.frozen HROW5.out 2; simp at c25; clear hown5 hgr5)
      obtain ⟨w6, hw6⟩ : ∃ w6, w6 = w5.setCell ⟨b3, 2, none⟩ (.slice (some ⟨gE, 0, none⟩) (i + 1) cE2) := ⟨_, rfl⟩
      rw [← hw6]
      have hg6 : w5.grownBy w6 (some b3) := hw6 ▸ grownBy_setCell _ _ _ _
      have HROW6 := Lib.hid (show Row w6 b3 88 #[.slice none 0 0, .slice aF i cF, .slice (some ⟨gE, 0, none⟩) (i + 1) cE2] from hw6 ▸ Row.setc HROW5.out 2 _)
      have hE5 : LIs w5 w.heap.size (some ⟨gE, 0, none⟩) (i + 1) cE2 ((bs.take (i + 1)).map lent) (Es ++ [⟨some ⟨gB, 0, none⟩, m + 70, cB⟩]) := by
        rw [HTK.out]
        exact LIs.push' HE.out HG.out.size HG4.out HOB.out HO5.out HGR5.out
      have hnot : ∀ g, In (some ⟨gE, 0, none⟩) cE2 g → g ≠ b3 := fun g hi h => by
        subst h
        exact row_in HROW5.out hE5.outer (by decide) hi
      have hE6 : LIs w6 w.heap.size (some ⟨gE, 0, none⟩) (i + 1) cE2 ((bs.take (i + 1)).map lent) (Es ++ [⟨some ⟨gB, 0, none⟩, m + 70, cB⟩]) := hE5.ch (Ch.ofSome (S := fun k => k = b3) hg6 rfl) (fun g hi h => hnot g hi h) (fun j hj g hi h => by
        subst h
        exact row_in HROW5.out (hE5.inner j hj (by have := hE5.len; omega)) (by decide) hi)
      have hF5 : Own w5 w.heap.size 22 1 aF i cF ((preS Es).map Sl.val) := Own.ch (Own.ch HF.out (Ch.ofNone HG4.out (fun _ => False)) (fun _ _ _ h => h)) HGR5.out.ch (fun h0 g e h => HD.out g h ⟨h0, e⟩)
      have hF6 : Own w6 w.heap.size 22 1 aF i cF ((preS Es).map Sl.val) := Own.ch hF5 (Ch.ofSome (S := fun k => k = b3) hg6 rfl) (fun h0 g e h => by
        subst h
        exact row_in HROW5.out hF5 (by decide) ⟨h0, e⟩)
      have hb6 : ∀ g, In (some ⟨gE, 0, none⟩) cE2 g → ¬ In aF cF g := fun g hi h => by
        rcases HGR5.out.inn hi with h1 | h1
        · exact HD.out g h1 h
        · have := (Own.inn (Own.ch HF.out (Ch.ofNone HG4.out (fun _ => False)) (fun _ _ _ h => h)) h).2
          omega
      have hgw5 : w.grownBy w5 none := Ch.fresh (grownBy_trans HG.out HG4.out) HGR5.out.ch (fun g hg h => by have := (Own.inn HE.out.outer h).1; omega)
      have HG6 := Lib.hid (grownBy_old hgw5 hg6 (by omega))
      have HT6 := Lib.hid ((((HT.out.grown HG4.out).ch HGR5.out.ch (row_in (HT.out.grown HG4.out) HE4.out (by decide)))).grownNe hg6 (by omega))
      have HE6 := Lib.hid hE6
      have HF6 := Lib.hid hF6
      have HB6 := Lib.hid hb6
      have hfin : ∀ u, Ch (In aF cF) w6 u → u.cell? ⟨b3, 1, none⟩ = some (.slice aF i cF) := fun u hu => by
        have h := Row.cell (HROW6.out.ch hu (row_in HROW6.out hF6 (by decide))) 1
        simpa using h
      have hfin2 : ∀ u, Ch (In aF cF) w6 u → u.cell? ⟨ga, oa + i, none⟩ = some (.slice sa m sc) := fun u hu => by
        have h1 : w6.cell? ⟨ga, oa + i, none⟩ = some (.slice sa m sc) := by
          have hold := HCV.out
          have hgr : ga < wr.heap.size := by have := HG.out.size; omega
          have e1 : w4.cell? ⟨ga, oa + i, none⟩ = wr.cell? ⟨ga, oa + i, none⟩ := World.cell?_of_block (HG4.out.block ga hgr (by simp))
          have hg4' : ga < w4.heap.size := by have := HG4.out.size; omega
          have e2 : w5.cell? ⟨ga, oa + i, none⟩ = w4.cell? ⟨ga, oa + i, none⟩ := World.cell?_of_block (HGR5.out.ch.block ga hg4' (fun h => by have := (Own.inn HE4.out h).1; omega))
          have e3 : w6.cell? ⟨ga, oa + i, none⟩ = w5.cell? ⟨ga, oa + i, none⟩ := World.cell?_of_block (hg6.block ga (by have := hgw5.size; omega) (by simp; omega))
          rw [e3, e2, e1, hold]
        have hga6 : ga < w6.heap.size := World.block_lt_of_cell? w6 _ h1
        exact (World.cell?_of_block (hu.block ga hga6 (fun h => by have := (Own.inn hF6 h).1; omega))).trans h1
      have HC1 := Lib.hid hfin
      have HC2 := Lib.hid hfin2
      have HHE6 : Hid (w.heap.size ≤ w6.heap.size) := Lib.hid HG6.out.size
      clear hw6 hg6 hE5 hnot hE6 hF5 hF6 hb6 hgw5 hfin hfin2 HROW HROW4 HROW5 HE HF HD HG HE4 HO5 HGR5 HOB HG4 HT c2 f2 c25 f25
      go_upto_region 7 with fail
      refine wp_regionX (AppS w6 w.heap.size 22 aF i cF ((preS Es).map Sl.val)) 12 (by kernel_rfl) ⟨Ch.ofNone (grownBy_drewN w6 1 none) _, HF6.out⟩ ?_
      refine wpX_take 0 (v := .pointer (some ⟨b3, 1, none⟩)) (oi := { dst := some 24, op := Op.fieldAddr 88 (Operand.tmp 3) 1, type := 0, pos := "nested.go:31", after := #[], guard := none }) (oL := { dst := none, op := Op.store 24 (Operand.tmp 35) (Operand.tmp 34), type := 0, pos := "nested.go:31", after := #[{ on := 11, ground := Ground.data }, { on := 10, ground := Ground.data }, { on := 10, ground := Ground.chain }, { on := 0, ground := Ground.phase }, { on := 1, ground := Ground.phase }, { on := 2, ground := Ground.phase }, { on := 3, ground := Ground.phase }, { on := 4, ground := Ground.phase }, { on := 5, ground := Ground.phase }, { on := 6, ground := Ground.phase }, { on := 7, ground := Ground.phase }, { on := 8, ground := Ground.phase }, { on := 9, ground := Ground.phase }, { on := 10, ground := Ground.phase }], guard := none }) (clo_app _ _ _ _ _ _ _) rfl rfl rfl (by kernel_rfl) (by kernel_rfl) (by kernel_rfl) (by kernel_rfl) (by kernel_rfl) (fun _ _ _ h => h) (YG.val (by rfl) (fun _ _ => by go_simp)) ?_
      simp only [Act.put, List.setIfInBounds_toArray, List.set_cons_zero, List.set_cons_succ]
      refine wpX_take 1 (v := .slice aF i cF) (oi := { dst := some 25, op := Op.load 24 (Operand.tmp 24), type := 24, pos := "nested.go:31", after := #[{ on := 0, ground := Ground.data }], guard := none }) (oL := { dst := none, op := Op.store 24 (Operand.tmp 35) (Operand.tmp 34), type := 0, pos := "nested.go:31", after := #[{ on := 11, ground := Ground.data }, { on := 10, ground := Ground.data }, { on := 10, ground := Ground.chain }, { on := 0, ground := Ground.phase }, { on := 1, ground := Ground.phase }, { on := 2, ground := Ground.phase }, { on := 3, ground := Ground.phase }, { on := 4, ground := Ground.phase }, { on := 5, ground := Ground.phase }, { on := 6, ground := Ground.phase }, { on := 7, ground := Ground.phase }, { on := 8, ground := Ground.phase }, { on := 9, ground := Ground.phase }, { on := 10, ground := Ground.phase }], guard := none }) (clo_app _ _ _ _ _ _ _) rfl rfl rfl (by kernel_rfl) (by kernel_rfl) (by kernel_rfl) (by kernel_rfl) (by kernel_rfl) (fun _ _ _ h => h) (YG.val (by rfl) (fun u hu => by have hc1 := HC1.out u hu.1; go_simp)) ?_
      simp only [Act.put, List.setIfInBounds_toArray, List.set_cons_zero, List.set_cons_succ]
      refine wpX_take 2 (v := .slice (some ⟨gB, 0, none⟩) (m + 70) cB) (oi := { dst := some 26, op := Op.move (Operand.tmp 5), type := 22, pos := "nested.go:31", after := #[], guard := none }) (oL := { dst := none, op := Op.store 24 (Operand.tmp 35) (Operand.tmp 34), type := 0, pos := "nested.go:31", after := #[{ on := 11, ground := Ground.data }, { on := 10, ground := Ground.data }, { on := 10, ground := Ground.chain }, { on := 0, ground := Ground.phase }, { on := 1, ground := Ground.phase }, { on := 2, ground := Ground.phase }, { on := 3, ground := Ground.phase }, { on := 4, ground := Ground.phase }, { on := 5, ground := Ground.phase }, { on := 6, ground := Ground.phase }, { on := 7, ground := Ground.phase }, { on := 8, ground := Ground.phase }, { on := 9, ground := Ground.phase }, { on := 10, ground := Ground.phase }], guard := none }) (clo_app _ _ _ _ _ _ _) rfl rfl rfl (by kernel_rfl) (by kernel_rfl) (by kernel_rfl) (by kernel_rfl) (by kernel_rfl) (fun _ _ _ h => h) (YG.val (by rfl) (fun _ _ => rfl)) ?_
      simp only [Act.put, List.setIfInBounds_toArray, List.set_cons_zero, List.set_cons_succ]
      refine wpX_take 3 (v := .slice (some ⟨ga, oa, none⟩) n c) (oi := { dst := some 27, op := Op.move (Operand.tmp 0), type := 24, pos := "nested.go:31", after := #[], guard := none }) (oL := { dst := none, op := Op.store 24 (Operand.tmp 35) (Operand.tmp 34), type := 0, pos := "nested.go:31", after := #[{ on := 11, ground := Ground.data }, { on := 10, ground := Ground.data }, { on := 10, ground := Ground.chain }, { on := 0, ground := Ground.phase }, { on := 1, ground := Ground.phase }, { on := 2, ground := Ground.phase }, { on := 3, ground := Ground.phase }, { on := 4, ground := Ground.phase }, { on := 5, ground := Ground.phase }, { on := 6, ground := Ground.phase }, { on := 7, ground := Ground.phase }, { on := 8, ground := Ground.phase }, { on := 9, ground := Ground.phase }, { on := 10, ground := Ground.phase }], guard := none }) (clo_app _ _ _ _ _ _ _) rfl rfl rfl (by kernel_rfl) (by kernel_rfl) (by kernel_rfl) (by kernel_rfl) (by kernel_rfl) (fun _ _ _ h => h) (YG.val (by rfl) (fun _ _ => rfl)) ?_
      simp only [Act.put, List.setIfInBounds_toArray, List.set_cons_zero, List.set_cons_succ]
      refine wpX_take 4 (v := .int .i64 (i : Int)) (oi := { dst := some 28, op := Op.move (Operand.tmp 4), type := 3, pos := "nested.go:31", after := #[], guard := none }) (oL := { dst := none, op := Op.store 24 (Operand.tmp 35) (Operand.tmp 34), type := 0, pos := "nested.go:31", after := #[{ on := 11, ground := Ground.data }, { on := 10, ground := Ground.data }, { on := 10, ground := Ground.chain }, { on := 0, ground := Ground.phase }, { on := 1, ground := Ground.phase }, { on := 2, ground := Ground.phase }, { on := 3, ground := Ground.phase }, { on := 4, ground := Ground.phase }, { on := 5, ground := Ground.phase }, { on := 6, ground := Ground.phase }, { on := 7, ground := Ground.phase }, { on := 8, ground := Ground.phase }, { on := 9, ground := Ground.phase }, { on := 10, ground := Ground.phase }], guard := none }) (clo_app _ _ _ _ _ _ _) rfl rfl rfl (by kernel_rfl) (by kernel_rfl) (by kernel_rfl) (by kernel_rfl) (by kernel_rfl) (fun _ _ _ h => h) (YG.val (by rfl) (fun _ _ => rfl)) ?_
      simp only [Act.put, List.setIfInBounds_toArray, List.set_cons_zero, List.set_cons_succ]
      refine wpX_take 5 (v := .pointer (some ⟨ga, oa + i, none⟩)) (oi := { dst := some 29, op := Op.indexAddr 24 (Operand.tmp 27) (Operand.tmp 28), type := 0, pos := "nested.go:31", after := #[{ on := 3, ground := Ground.data }, { on := 4, ground := Ground.data }], guard := none }) (oL := { dst := none, op := Op.store 24 (Operand.tmp 35) (Operand.tmp 34), type := 0, pos := "nested.go:31", after := #[{ on := 11, ground := Ground.data }, { on := 10, ground := Ground.data }, { on := 10, ground := Ground.chain }, { on := 0, ground := Ground.phase }, { on := 1, ground := Ground.phase }, { on := 2, ground := Ground.phase }, { on := 3, ground := Ground.phase }, { on := 4, ground := Ground.phase }, { on := 5, ground := Ground.phase }, { on := 6, ground := Ground.phase }, { on := 7, ground := Ground.phase }, { on := 8, ground := Ground.phase }, { on := 9, ground := Ground.phase }, { on := 10, ground := Ground.phase }], guard := none }) (clo_app _ _ _ _ _ _ _) rfl rfl rfl (by kernel_rfl) (by kernel_rfl) (by kernel_rfl) (by kernel_rfl) (by kernel_rfl) (fun _ _ _ h => h) (YG.val (by rfl) (fun _ _ => by go_simp)) ?_
      simp only [Act.put, List.setIfInBounds_toArray, List.set_cons_zero, List.set_cons_succ]
      refine wpX_take 6 (v := .slice sa m sc) (oi := { dst := some 30, op := Op.load 22 (Operand.tmp 29), type := 22, pos := "nested.go:31", after := #[{ on := 5, ground := Ground.data }], guard := none }) (oL := { dst := none, op := Op.store 24 (Operand.tmp 35) (Operand.tmp 34), type := 0, pos := "nested.go:31", after := #[{ on := 11, ground := Ground.data }, { on := 10, ground := Ground.data }, { on := 10, ground := Ground.chain }, { on := 0, ground := Ground.phase }, { on := 1, ground := Ground.phase }, { on := 2, ground := Ground.phase }, { on := 3, ground := Ground.phase }, { on := 4, ground := Ground.phase }, { on := 5, ground := Ground.phase }, { on := 6, ground := Ground.phase }, { on := 7, ground := Ground.phase }, { on := 8, ground := Ground.phase }, { on := 9, ground := Ground.phase }, { on := 10, ground := Ground.phase }], guard := none }) (clo_app _ _ _ _ _ _ _) rfl rfl rfl (by kernel_rfl) (by kernel_rfl) (by kernel_rfl) (by kernel_rfl) (by kernel_rfl) (fun _ _ _ h => h) (YG.val (by rfl) (fun u hu => by have hc2 := HC2.out u hu.1; go_simp)) ?_
      simp only [Act.put, List.setIfInBounds_toArray, List.set_cons_zero, List.set_cons_succ]
      refine wpX_take 7 (v := .int .i64 (m : Int)) (oi := { dst := some 31, op := Op.call { callee := Callee.builtin Builtin.len, args := #[Operand.tmp 30], argTypes := #[22] }, type := 3, pos := "nested.go:31", after := #[{ on := 6, ground := Ground.data }], guard := none }) (oL := { dst := none, op := Op.store 24 (Operand.tmp 35) (Operand.tmp 34), type := 0, pos := "nested.go:31", after := #[{ on := 11, ground := Ground.data }, { on := 10, ground := Ground.data }, { on := 10, ground := Ground.chain }, { on := 0, ground := Ground.phase }, { on := 1, ground := Ground.phase }, { on := 2, ground := Ground.phase }, { on := 3, ground := Ground.phase }, { on := 4, ground := Ground.phase }, { on := 5, ground := Ground.phase }, { on := 6, ground := Ground.phase }, { on := 7, ground := Ground.phase }, { on := 8, ground := Ground.phase }, { on := 9, ground := Ground.phase }, { on := 10, ground := Ground.phase }], guard := none }) (clo_app _ _ _ _ _ _ _) rfl rfl rfl (by kernel_rfl) (by kernel_rfl) (by kernel_rfl) (by kernel_rfl) (by kernel_rfl) (fun _ _ _ h => h) (YG.val (by rfl) (fun _ _ => by go_simp)) ?_
      simp only [Act.put, List.setIfInBounds_toArray, List.set_cons_zero, List.set_cons_succ]
      refine wpX_take 8 (v := .slice (some ⟨gB, 0, none⟩) m cB) (oi := { dst := some 32, op := Op.slice 22 (Operand.tmp 26) none (some (Operand.tmp 31)) none, type := 22, pos := "nested.go:31", after := #[{ on := 2, ground := Ground.data }, { on := 7, ground := Ground.data }], guard := none }) (oL := { dst := none, op := Op.store 24 (Operand.tmp 35) (Operand.tmp 34), type := 0, pos := "nested.go:31", after := #[{ on := 11, ground := Ground.data }, { on := 10, ground := Ground.data }, { on := 10, ground := Ground.chain }, { on := 0, ground := Ground.phase }, { on := 1, ground := Ground.phase }, { on := 2, ground := Ground.phase }, { on := 3, ground := Ground.phase }, { on := 4, ground := Ground.phase }, { on := 5, ground := Ground.phase }, { on := 6, ground := Ground.phase }, { on := 7, ground := Ground.phase }, { on := 8, ground := Ground.phase }, { on := 9, ground := Ground.phase }, { on := 10, ground := Ground.phase }], guard := none }) (clo_app _ _ _ _ _ _ _) rfl rfl rfl (by kernel_rfl) (by kernel_rfl) (by kernel_rfl) (by kernel_rfl) (by kernel_rfl) (fun _ _ _ h => h) (YG.val (by rfl) (fun u _ => run_pre_op u _ (.tmp 26) (.tmp 31) rfl gB (m + 70) cB m rfl rfl (by omega))) ?_
      simp only [Act.put, List.setIfInBounds_toArray, List.set_cons_zero, List.set_cons_succ]
      refine wpX_step 9 (o := { dst := some 33, op := Op.buildSlice 24 1 #[(0, Operand.tmp 32)], type := 24, pos := "nested.go:31", after := #[{ on := 8, ground := Ground.data }], guard := none }) rfl rfl (by kernel_rfl) (by rfl) (fun u2 hS2 K hK => ?_)
      have HK := Lib.hid hK
      have HS2 := Lib.hid hS2
      clear hK hS2
      have ha2 := World.grownBy_alloc u2 (.cells #[.slice (some ⟨gB, 0, none⟩) m cB] 22) none
      refine wp_val_op (v := .slice (some ⟨u2.heap.size, 0, none⟩) 1 1) (w1 := u2.alloc (.cells #[.slice (some ⟨gB, 0, none⟩) m cB] 22)) (by go_simp) ?_
      have hrw2 : Row (u2.alloc (.cells #[.slice (some ⟨gB, 0, none⟩) m cB] 22)) u2.heap.size 22 #[.slice (some ⟨gB, 0, none⟩) m cB] := heap_alloc_new u2 _
      refine HK.out (fun u => AppS w6 w.heap.size 22 aF i cF ((preS Es).map Sl.val) u ∧ Row u u2.heap.size 22 #[.slice (some ⟨gB, 0, none⟩) m cB]) _ _ ⟨clo_app _ _ _ _ _ _ _ _ _ HS2.out ha2, hrw2⟩ (fun u h => h.1) (clo_and (clo_app _ _ _ _ _ _ _) (clo_row _ _ _)) ?_
      simp only [Act.put, List.setIfInBounds_toArray, List.set_cons_zero, List.set_cons_succ]
      clear ha2 hrw2
      have hu26 : w6.heap.size ≤ u2.heap.size := HS2.out.1.size
      refine wpX_step 10 (o := { dst := some 34, op := Op.call { callee := Callee.builtin Builtin.append, args := #[Operand.tmp 25, Operand.tmp 33], argTypes := #[24, 24] }, type := 24, pos := "nested.go:31", after := #[{ on := 1, ground := Ground.data }, { on := 9, ground := Ground.data }], guard := none }) rfl rfl (by kernel_rfl) (by rfl) (fun u3 hS3 K3 hK3 => ?_)
      have HK3 := Lib.hid hK3
      have HS3 := Lib.hid hS3
      clear hK3 hS3
      have hnews : ∀ j u, ([.slice (some ⟨gB, 0, none⟩) m cB] : List Value)[j]? = some u → u3.cell? ((⟨u2.heap.size, 0, none⟩ : Addr).add j) = some u := by
        intro j u hu
        have h2 : ((⟨u2.heap.size, 0, none⟩ : Addr).add j) = ⟨u2.heap.size, j, none⟩ := by unfold Addr.add; split <;> simp_all
        rw [h2, Row.cell HS3.out.2]
        simpa using hu
      have hzb : w.heap.size ≤ u3.heap.size := by
        have h1 := HHE6.out
        have h2 := HS3.out.1.1.size
        omega
      have hFn : ¬ In aF cF u2.heap.size := fun h => by
        have := (Own.inn HF6.out h).2
        omega
      obtain ⟨gF, cF2, w8, hrun, hown8, hgr8⟩ := run_app (P := Try.prog) (ty := 24) u3 elS HS3.out.1.2 ⟨u2.heap.size, 0, none⟩ 1 1 [.slice (some ⟨gB, 0, none⟩) m cB] rfl hnews (by simp [Value.oneCell']) (by unfold maxLen; omega) (by omega) hzb (fun _ _ _ => trivial) (by omega)
      refine wp_val_op (v := .slice (some ⟨gF, 0, none⟩) (i + 1) cF2) (w1 := w8) (run_app_op u3 w8 _ (.tmp 25) (.tmp 33) rfl _ hrun) ?_
      refine HK3.out (fun u => (AppS w6 w.heap.size 22 aF i cF ((preS Es).map Sl.val) u ∧ Row u u2.heap.size 22 #[.slice (some ⟨gB, 0, none⟩) m cB]) ∧ w8.grownBy u none) _ _ ⟨⟨⟨HS3.out.1.1.trans hgr8.ch (fun _ _ h => h), own_behind HS3.out.1.2 hown8 hgr8⟩, Row.ch HS3.out.2 hgr8.ch hFn⟩, World.grownBy.refl _ _⟩ (fun u h => h.1) (clo_and (clo_and (clo_app _ _ _ _ _ _ _) (clo_row _ _ _)) (clo_grown _)) ?_
      simp only [Act.put, List.setIfInBounds_toArray, List.set_cons_zero, List.set_cons_succ]
      refine wpX_take 11 (v := .pointer (some ⟨b3, 1, none⟩)) (oi := { dst := some 35, op := Op.fieldAddr 88 (Operand.tmp 3) 1, type := 0, pos := "nested.go:31", after := #[{ on := 0, ground := Ground.phase }, { on := 1, ground := Ground.phase }, { on := 2, ground := Ground.phase }, { on := 3, ground := Ground.phase }, { on := 4, ground := Ground.phase }, { on := 5, ground := Ground.phase }, { on := 6, ground := Ground.phase }, { on := 7, ground := Ground.phase }, { on := 8, ground := Ground.phase }, { on := 9, ground := Ground.phase }, { on := 10, ground := Ground.phase }], guard := none }) (oL := { dst := none, op := Op.store 24 (Operand.tmp 35) (Operand.tmp 34), type := 0, pos := "nested.go:31", after := #[{ on := 11, ground := Ground.data }, { on := 10, ground := Ground.data }, { on := 10, ground := Ground.chain }, { on := 0, ground := Ground.phase }, { on := 1, ground := Ground.phase }, { on := 2, ground := Ground.phase }, { on := 3, ground := Ground.phase }, { on := 4, ground := Ground.phase }, { on := 5, ground := Ground.phase }, { on := 6, ground := Ground.phase }, { on := 7, ground := Ground.phase }, { on := 8, ground := Ground.phase }, { on := 9, ground := Ground.phase }, { on := 10, ground := Ground.phase }], guard := none }) (clo_and (clo_and (clo_app _ _ _ _ _ _ _) (clo_row _ _ _)) (clo_grown _)) rfl rfl rfl (by kernel_rfl) (by kernel_rfl) (by kernel_rfl) (by kernel_rfl) (by kernel_rfl) (fun _ _ _ h => h) (YG.val (by rfl) (fun _ _ => by go_simp)) ?_
      simp only [Act.put, List.setIfInBounds_toArray, List.set_cons_zero, List.set_cons_succ]
      refine wpX_last (oL := { dst := none, op := Op.store 24 (Operand.tmp 35) (Operand.tmp 34), type := 0, pos := "nested.go:31", after := #[{ on := 11, ground := Ground.data }, { on := 10, ground := Ground.data }, { on := 10, ground := Ground.chain }, { on := 0, ground := Ground.phase }, { on := 1, ground := Ground.phase }, { on := 2, ground := Ground.phase }, { on := 3, ground := Ground.phase }, { on := 4, ground := Ground.phase }, { on := 5, ground := Ground.phase }, { on := 6, ground := Ground.phase }, { on := 7, ground := Ground.phase }, { on := 8, ground := Ground.phase }, { on := 9, ground := Ground.phase }, { on := 10, ground := Ground.phase }], guard := none }) rfl (by kernel_rfl) (by kernel_rfl) (by rfl) (fun u4 hS4 K4 hK4 => ?_)
      have hrow4 := HROW6.out.ch hS4.1.1.1 (row_in HROW6.out HF6.out (by decide))
      have c14 := Row.cell hrow4 1
      have f14 := Row.frozen hrow4 1
      simp at c14
      refine wp_skip_op (w1 := u4.setCell ⟨b3, 1, none⟩ (.slice (some ⟨gF, 0, none⟩) (i + 1) cF2)) (by go_simp) (hK4 _ _ ?_)
      simp only [Act.put]
      obtain ⟨w9, hw9⟩ : ∃ w9, w9 = u4.setCell ⟨b3, 1, none⟩ (.slice (some ⟨gF, 0, none⟩) (i + 1) cF2) := ⟨_, rfl⟩
      rw [← hw9]
      have hg9 : u4.grownBy w9 (some b3) := hw9 ▸ grownBy_setCell _ _ _ _
      have hrow9 : Row w9 b3 88 #[.slice none 0 0, .slice (some ⟨gF, 0, none⟩) (i + 1) cF2, .slice (some ⟨gE, 0, none⟩) (i + 1) cE2] := hw9 ▸ Row.setc hrow4 1 _
      have hE4 : LIs u4 w.heap.size (some ⟨gE, 0, none⟩) (i + 1) cE2 ((bs.take (i + 1)).map lent) (Es ++ [⟨some ⟨gB, 0, none⟩, m + 70, cB⟩]) := HE6.out.chTy hS4.1.1.1 HF6.out HB6.out
      have hE9 : LIs w9 w.heap.size (some ⟨gE, 0, none⟩) (i + 1) cE2 ((bs.take (i + 1)).map lent) (Es ++ [⟨some ⟨gB, 0, none⟩, m + 70, cB⟩]) := hE4.ch (Ch.ofSome (S := fun k => k = b3) hg9 rfl) (fun g hi h => by
        subst h
        exact row_in hrow4 hE4.outer (by decide) hi) (fun j hj g hi h => by
        subst h
        exact row_in hrow4 (hE4.inner j hj (by have := hE4.len; omega)) (by decide) hi)
      have hF4 : Own u4 w.heap.size 22 1 (some ⟨gF, 0, none⟩) (i + 1) cF2 ((preS Es).map Sl.val ++ [.slice (some ⟨gB, 0, none⟩) m cB]) := Own.ch hown8 (Ch.ofNone hS4.2 (fun _ => False)) (fun _ _ _ h => h)
      have hF9 : SOwn w9 w.heap.size (some ⟨gF, 0, none⟩) (i + 1) cF2 (preS (Es ++ [⟨some ⟨gB, 0, none⟩, m + 70, cB⟩])) := by
        have h1 : (preS (Es ++ [(⟨some ⟨gB, 0, none⟩, m + 70, cB⟩ : Sl)])).map Sl.val = (preS Es).map Sl.val ++ [.slice (some ⟨gB, 0, none⟩) m cB] := by simp [preS, Sl.val]
        unfold SOwn
        rw [h1]
        exact Own.ch hF4 (Ch.ofSome (S := fun k => k = b3) hg9 rfl) (fun h0 g e h => by
          subst h
          exact row_in hrow4 hF4 (by decide) ⟨h0, e⟩)
      have hd9 : ∀ g, In (some ⟨gE, 0, none⟩) cE2 g → ¬ In (some ⟨gF, 0, none⟩) cF2 g := fun g hi h => by
        have h6 := (Own.inn HE6.out.outer hi).2
        rcases hgr8.inn h with h1 | h1
        · exact HB6.out g hi h1
        · have := HS3.out.1.1.size
          omega
      have hG4 : w.grownBy u4 none := Ch.fresh HG6.out hS4.1.1.1 (fun g hg h => by have := (Own.inn HF6.out h).1; omega)
      have HG9 := Lib.hid (grownBy_old hG4 hg9 (by omega))
      have HT9 := Lib.hid ((HT6.out.ch hS4.1.1.1 (row_in HT6.out HF6.out (by decide))).grownNe hg9 (by omega))
      have HROW9 := Lib.hid hrow9
      have HE9 := Lib.hid hE9
      have HF9 := Lib.hid hF9
      have HD9 := Lib.hid hd9
      clear hw9 hg9 hrow9 hE4 hE9 hF4 hF9 hd9 hG4 hrow4 c14 f14 hS4 HS3 hgr8 hown8 hrun hFn hzb hnews hu26 HK3 HK HS2 HE6 HF6 HB6 HC1 HC2 HROW6 HT6 HG6 hK4
      go_wp2_with fail
      go_roundw
      case rel => exact ⟨i + 1, _, _, _, _, _, by omega, by go_num, HROW9.out, HT9.out, HE9.out, HF9.out, HD9.out, HG9.out⟩
      case measure => simp [intOf]; omega
    · obtain rfl : i = n := by omega
      have htk : bs.take i = bs := List.take_of_length_le (by rw [HN.out]; exact Nat.le_refl _)
      rw [htk] at HE
      clear htk
      go_wp2_with fail
      go_loopw [6] (fun vj wr2 => ∃ (j m : Nat) (aF : Option Addr) (cF : Nat) (Ms : List Sl), j ≤ 70 ∧ m = i + j ∧ vj = .int .i64 j ∧ Row wr2 b3 88 #[.slice none 0 0, .slice aF m cF, .slice aE i cE] ∧ Row wr2 w.heap.size 88 #[.slice none 0 0, .slice none 0 0, .slice none 0 0] ∧ LIs wr2 w.heap.size aE i cE (bs.map lent) Es ∧ SOwn wr2 w.heap.size aF m cF (preS Es ++ Ms) ∧ Ms.length = j ∧ (∀ k (h : k < Ms.length), BOwn wr2 w.heap.size (Ms[k]).a 2 (Ms[k]).c [UInt8.ofNat k, 99] ∧ (Ms[k]).n = 2) ∧ (∀ g, In aE cE g → ¬ In aF cF g) ∧ w.grownBy wr2 none) (fun vj _ => 70 - (intOf vj).toNat)
      case atStart => exact ⟨0, i, aF, cF, [], by omega, rfl, rfl, HROW.out, HT.out, HE.out, by rw [List.append_nil]; exact HF.out, rfl, fun k h => absurd h (by simp), HD.out, HG.out⟩
      case round =>
        obtain ⟨j, m, aF, cF, Ms, hj, hm, rfl, hrow, hrt, hE, hF, hMl, hM, hdis, hg⟩ := hrel
        replace HROW := Lib.hid hrow
        replace HT := Lib.hid hrt
        replace HE := Lib.hid hE
        replace HF := Lib.hid hF
        have HM := Lib.hid hM
        have HML := Lib.hid hMl
        replace HD := Lib.hid hdis
        replace HG := Lib.hid hg
        have HMM := Lib.hid hm
        have hmb : m ≤ 4000000070 := by omega
        clear hrow hrt hE hF hMl hM hdis hg hm
        by_cases hlt2 : j < 70
        · have hwv : IntKind.u8.wrap (j : Int) = (j : Int) := IntWalk.u8_in _ (by omega)
          have c1 := Row.cell HROW.out 1
          simp at c1
          have ha1 := World.grownBy_alloc wr (.cells #[.int .u8 (j : Int), .int .u8 99] 5) none
          have HF1 : Hid (Own (wr.alloc (.cells #[.int .u8 (j : Int), .int .u8 99] 5)) w.heap.size 22 1 aF m cF ((preS Es ++ Ms).map Sl.val)) := Lib.hid (Own.ch HF.out (Ch.ofNone ha1 (fun _ => False)) (fun _ _ _ h => h))
          have HROW1 := Lib.hid (HROW.out.grown ha1)
          have HA1 := Lib.hid ha1
          clear ha1
          go_wp2_with (at_builtin; go_loud (refine wpList_push elS rfl (.tmp 41) (.tmp 45) rfl rfl HF1.out (.slice (some ⟨wr.heap.size, 0, none⟩) 2 2) (by rw [World.size_alloc]; rfl) rfl (by unfold maxLen; omega) (by omega) (by have := HG.out.size; rw [World.size_alloc]; omega) ?_; intro gF cF2 w5 hown5 hgr5; have HO5 := Lib.hid hown5; have HGR5 := Lib.hid hgr5; have HROW5 := Lib.hid (HROW1.out.ch hgr5.ch (row_in HROW1.out HF1.out (by decide))); have c15 := Row.cell HROW5.out 1; have f15 := Row.frozen HROW5.out 1; simp at c15; clear hown5 hgr5))
          obtain ⟨w6, hw6⟩ : ∃ w6, w6 = w5.setCell ⟨b3, 1, none⟩ (.slice (some ⟨gF, 0, none⟩) (m + 1) cF2) := ⟨_, rfl⟩
          rw [← hw6]
          have hg6 : w5.grownBy w6 (some b3) := hw6 ▸ grownBy_setCell _ _ _ _
          have hrow6 : Row w6 b3 88 #[.slice none 0 0, .slice (some ⟨gF, 0, none⟩) (m + 1) cF2, .slice aE i cE] := hw6 ▸ Row.setc HROW5.out 1 _
          have hE1 : LIs (wr.alloc (.cells #[.int .u8 (j : Int), .int .u8 99] 5)) w.heap.size aE i cE (bs.map lent) Es := HE.out.grown HA1.out
          have hE5 : LIs w5 w.heap.size aE i cE (bs.map lent) Es := hE1.chTy HGR5.out.ch HF1.out HD.out
          have hE6 : LIs w6 w.heap.size aE i cE (bs.map lent) Es := hE5.ch (Ch.ofSome (S := fun k => k = b3) hg6 rfl) (fun g hi h => by
            subst h
            exact row_in HROW5.out hE5.outer (by decide) hi) (fun k hk g hi h => by
            subst h
            exact row_in HROW5.out (hE5.inner k hk (by have := hE5.len; omega)) (by decide) hi)
          have hF6 : SOwn w6 w.heap.size (some ⟨gF, 0, none⟩) (m + 1) cF2 (preS Es ++ (Ms ++ [⟨some ⟨wr.heap.size, 0, none⟩, 2, 2⟩])) := by
            have h1 : (preS Es ++ (Ms ++ [(⟨some ⟨wr.heap.size, 0, none⟩, 2, 2⟩ : Sl)])).map Sl.val = (preS Es ++ Ms).map Sl.val ++ [.slice (some ⟨wr.heap.size, 0, none⟩) 2 2] := by simp [Sl.val]
            unfold SOwn
            rw [h1]
            exact Own.ch HO5.out (Ch.ofSome (S := fun k => k = b3) hg6 rfl) (fun h0 g e h => by
              subst h
              exact row_in HROW5.out HO5.out (by decide) ⟨h0, e⟩)
          have keep : ∀ (a' : Option Addr) (n' c' : Nat) (l : List UInt8), BOwn (wr.alloc (.cells #[.int .u8 (j : Int), .int .u8 99] 5)) w.heap.size a' n' c' l → BOwn w6 w.heap.size a' n' c' l := fun a' n' c' l h => by
            have h5 : BOwn w5 w.heap.size a' n' c' l := Own.ch h HGR5.out.ch (fun h0 g e hi => by
              obtain ⟨h3, h4⟩ := hi
              have h' := HF1.out
              rw [h4] at h'
              have hh : Own (wr.alloc (.cells #[.int .u8 (j : Int), .int .u8 99] 5)) w.heap.size 5 1 (some ⟨g, 0, none⟩) n' c' (l.map bval) := e ▸ h
              exact own_ne hh h' h0 h3 (by decide) rfl)
            exact Own.ch h5 (Ch.ofSome (S := fun k => k = b3) hg6 rfl) (fun h0 g e hi => by
              subst hi
              exact row_in HROW5.out h5 (by decide) ⟨h0, e⟩)
          have hnew : BOwn (wr.alloc (.cells #[.int .u8 (j : Int), .int .u8 99] 5)) w.heap.size (some ⟨wr.heap.size, 0, none⟩) 2 2 [UInt8.ofNat j, 99] := by
            have hz : ((UInt8.ofNat j).toNat : Int) = (j : Int) := by rw [UInt8.toNat_ofNat']; omega
            have hb : BRow (wr.alloc (.cells #[.int .u8 (j : Int), .int .u8 99] 5)) wr.heap.size 5 [UInt8.ofNat j, 99] := by
              have h1 : rowB [UInt8.ofNat j, 99] = #[.int .u8 (j : Int), .int .u8 99] := by
                simp [rowB, bval]
                omega
              unfold BRow
              rw [h1]
              exact heap_alloc_new wr _
            exact BRow.own hb HG.out.size 2 rfl (by decide)
          have hM6 : ∀ k (h : k < (Ms ++ [(⟨some ⟨wr.heap.size, 0, none⟩, 2, 2⟩ : Sl)]).length), BOwn w6 w.heap.size ((Ms ++ [(⟨some ⟨wr.heap.size, 0, none⟩, 2, 2⟩ : Sl)])[k]).a 2 ((Ms ++ [(⟨some ⟨wr.heap.size, 0, none⟩, 2, 2⟩ : Sl)])[k]).c [UInt8.ofNat k, 99] ∧ ((Ms ++ [(⟨some ⟨wr.heap.size, 0, none⟩, 2, 2⟩ : Sl)])[k]).n = 2 := by
            intro k hk
            by_cases hkl : k < Ms.length
            · rw [List.getElem_append_left hkl]
              obtain ⟨h1, h2⟩ := HM.out k hkl
              exact ⟨keep _ _ _ _ (Own.ch h1 (Ch.ofNone HA1.out (fun _ => False)) (fun _ _ _ h => h)), h2⟩
            · simp only [List.length_append, List.length_singleton] at hk
              obtain rfl : k = Ms.length := by omega
              have e2 : (Ms ++ [(⟨some ⟨wr.heap.size, 0, none⟩, 2, 2⟩ : Sl)])[Ms.length]'(by simp) = (⟨some ⟨wr.heap.size, 0, none⟩, 2, 2⟩ : Sl) := by simp
              rw [e2, HML.out]
              exact ⟨keep _ _ _ _ hnew, rfl⟩
          have hd6 : ∀ g, In aE cE g → ¬ In (some ⟨gF, 0, none⟩) cF2 g := fun g hi h => by
            rcases HGR5.out.inn h with h1 | h1
            · exact HD.out g hi h1
            · have := (Own.inn HE.out.outer hi).2
              rw [World.size_alloc] at h1
              omega
          have hg1 : w.grownBy (wr.alloc (.cells #[.int .u8 (j : Int), .int .u8 99] 5)) none := grownBy_trans HG.out HA1.out
          have hg5 : w.grownBy w5 none := Ch.fresh hg1 HGR5.out.ch (fun g hg h => by have := (Own.inn HF1.out h).1; omega)
          have HG6 := Lib.hid (grownBy_old hg5 hg6 (by omega))
          have HT6 := Lib.hid (((HT.out.grown HA1.out).ch HGR5.out.ch (row_in (HT.out.grown HA1.out) HF1.out (by decide))).grownNe hg6 (by omega))
          have HROW6 := Lib.hid hrow6
          have HE6 := Lib.hid hE6
          have HF6 := Lib.hid hF6
          have HM6 := Lib.hid hM6
          have HD6 := Lib.hid hd6
          clear hw6 hg6 hrow6 hE1 hE5 hE6 hF6 keep hnew hM6 hd6 hg1 hg5 c1 c15 f15 HROW HT HE HF HM HD HG HO5 HGR5 HROW5 HROW1 HF1 HA1
          go_roundw
          case rel => exact ⟨j + 1, m + 1, _, _, _, by omega, by have := HMM.out; omega, by go_num, HROW6.out, HT6.out, HE6.out, HF6.out, by simp [HML.out], HM6.out, HD6.out, HG6.out⟩
          case measure => simp [intOf]; omega
        · obtain rfl : j = 70 := by omega
          have hmm := HMM.out
          subst hmm
          have hcF := (Own.cap HF.out).1
          obtain ⟨gF, haF, hgF, hgF2⟩ := Own.block HF.out (by omega)
          subst haF
          have c1 := Row.cell HROW.out 1
          have c0 := Row.cell HROW.out 0
          have f0 := Row.frozen HROW.out 0
          simp at c0 c1
          go_upto_region 13 with fail
          obtain ⟨w6, hw6⟩ : ∃ w6, w6 = wr.setCell ⟨b3, 0, none⟩ (.slice (some ⟨gF, 0, none⟩) i cF) := ⟨_, rfl⟩
          rw [← hw6]
          have hg6 : wr.grownBy w6 (some b3) := hw6 ▸ grownBy_setCell _ _ _ _
          have HROW6 := Lib.hid (show Row w6 b3 88 #[.slice (some ⟨gF, 0, none⟩) i cF, .slice (some ⟨gF, 0, none⟩) (i + 70) cF, .slice aE i cE] from hw6 ▸ Row.setc HROW.out 0 _)
          have HT6 := Lib.hid (HT.out.grownNe hg6 (by omega))
          have hE6 : LIs w6 w.heap.size aE i cE (bs.map lent) Es := HE.out.ch (Ch.ofSome (S := fun k => k = b3) hg6 rfl) (fun g hi h => by
            subst h
            exact row_in HROW.out HE.out.outer (by decide) hi) (fun k hk g hi h => by
            subst h
            exact row_in HROW.out (HE.out.inner k hk (by have := HE.out.len; omega)) (by decide) hi)
          have hF6 : SOwn w6 w.heap.size (some ⟨gF, 0, none⟩) (i + 70) cF (preS Es ++ Ms) := Own.ch HF.out (Ch.ofSome (S := fun k => k = b3) hg6 rfl) (fun h0 g e h => by
            subst h
            exact row_in HROW.out HF.out (by decide) ⟨h0, e⟩)
          have hM6 : ∀ k (h : k < Ms.length), BOwn w6 w.heap.size (Ms[k]).a 2 (Ms[k]).c [UInt8.ofNat k, 99] ∧ (Ms[k]).n = 2 := fun k hk => by
            obtain ⟨h1, h2⟩ := HM.out k hk
            exact ⟨Own.ch h1 (Ch.ofSome (S := fun k => k = b3) hg6 rfl) (fun h0 g e h => by
              subst h
              exact row_in HROW.out h1 (by decide) ⟨h0, e⟩), h2⟩
          have HG6 := Lib.hid (grownBy_old HG.out hg6 (by omega))
          have HE6 := Lib.hid hE6
          have HF6 := Lib.hid hF6
          have HM6 := Lib.hid hM6
          clear hw6 hg6 hE6 hF6 hM6 c0 c1 f0 HROW HT HE HF HM HG
          go_wp2_with (first | (refine wpList_load_row rfl 88 _ rfl b3 rfl 88 #[.slice (some ⟨gF, 0, none⟩) i cF, .slice (some ⟨gF, 0, none⟩) (i + 70) cF, .slice aE i cE] (0, 0) _ HROW6.out Try.underlying88 rfl (by kernel_rfl) ?_) | (refine wpList_putrow rfl rfl w.heap.size rfl #[.slice (some ⟨gF, 0, none⟩) i cF, .slice (some ⟨gF, 0, none⟩) (i + 70) cF, .slice aE i cE] rfl HT6.out (by kernel_rfl) rfl (by simp [Value.oneCell']) ?_; intro W7 hg7 hr7; have HG7 := Lib.hid hg7; have HR7 := Lib.hid hr7; clear hg7 hr7))
          have hE7 : LIs W7 w.heap.size aE i cE (bs.map lent) Es := HE6.out.ch (Ch.ofSome (S := fun k => k = w.heap.size) HG7.out rfl) (fun g hi h => by
            subst h
            exact row_in HT6.out HE6.out.outer (by decide) hi) (fun k hk g hi h => by
            subst h
            exact row_in HT6.out (HE6.out.inner k hk (by have := HE6.out.len; omega)) (by decide) hi)
          have hF7 : SOwn W7 w.heap.size (some ⟨gF, 0, none⟩) (i + 70) cF (preS Es ++ Ms) := Own.ch HF6.out (Ch.ofSome (S := fun k => k = w.heap.size) HG7.out rfl) (fun h0 g e h => by
            subst h
            exact row_in HT6.out HF6.out (by decide) ⟨h0, e⟩)
          have hM7 : ∀ k (h : k < Ms.length), BOwn W7 w.heap.size (Ms[k]).a 2 (Ms[k]).c [UInt8.ofNat k, 99] ∧ (Ms[k]).n = 2 := fun k hk => by
            obtain ⟨h1, h2⟩ := HM6.out k hk
            exact ⟨Own.ch h1 (Ch.ofSome (S := fun k => k = w.heap.size) HG7.out rfl) (fun h0 g e h => by
              subst h
              exact row_in HT6.out h1 (by decide) ⟨h0, e⟩), h2⟩
          refine bodyPost_ret (results_cell_row rfl _ _ w.heap.size 88 #[.slice (some ⟨gF, 0, none⟩) i cF, .slice (some ⟨gF, 0, none⟩) (i + 70) cF, .slice aE i cE] (0, 0) _ rfl HR7.out Try.underlying88 rfl (by kernel_rfl)) rfl ?_
          exact ⟨_, _, _, _, rfl, Es, hE7, Ms, hF7, HML.out, hM7, grownBy_old HG6.out HG7.out (Nat.le_refl _)⟩

end Go.Proofs.Ythemlaibjchjpaa
