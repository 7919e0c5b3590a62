/- A range over a function whose iterator makes memory for what it tells: the round is told what lies in that memory. And: a region that draws its order, in a round. -/
import Derived.RangeFuncNested
import Derived.RangeFuncBound
import Derived.RangeFuncCalls
import Derived.RangeFuncLeaves
import Derived.Shelf.Abstract
import Derived.Shelf.RegionOpen
import Derived.WalkKit
import Derived.OwnWalkIn
import Derived.TacticsInMore
import Derived.LoopNIn
import Derived.LoopIn
import Derived.Test.YthemlaibjchjpaaRegX
import Derived.Test.YthemlaibjchjpaaCh
namespace Go.Proofs.Ythemlaibjchjpaa
open Go.RowKit Go.Shelf

/-- cells that lay lie as they lay -/
structure KeptC (W W' : World) : Prop where
  size : W.heap.size ≤ W'.heap.size
  same : ∀ (k : Nat) (o : Obj), W.heap[k]? = some o → o.isCells = true → W'.heap[k]? = some o
theorem KeptC.refl (W : World) : KeptC W W := ⟨Nat.le_refl _, fun _ _ h _ => h⟩
theorem KeptC.put {W W' : World} (h : KeptC W W') (l : Nat) {o : Obj} (o' : Obj) (hl : W'.heap[l]? = some o) (ho : o.isCells = false) : KeptC W (W'.putObj l o') :=
  ⟨Nat.le_trans h.size (grownBy_putObj' W' l o').size, fun k o2 hk h2 => by
    have h3 := h.same k o2 hk h2
    by_cases e : k = l
    · subst e; rw [hl] at h3; injection h3 with h3; subst h3; rw [ho] at h2; cases h2
    · exact (World.putObj_heap_other (by omega)).trans h3⟩
theorem KeptC.of {W W' : World} (h : W.grownBy W' none) : KeptC W W' := ⟨h.size, fun k o hk _ => (h.block k (Array.getElem?_eq_some_iff.1 hk).1 (by simp)).trans hk⟩

/-- what an iterator does that tells each round what it has made for it: W0 the world ahead of the making, W1 behind -/
def SeqOk {α : Type} (F : Fence) (n : Nat) (P : Program) (g : Nat) (lb : Array Value) (encs : α → Array Value) (Kp : World → World → Prop) (Ok : List α → α → World → World → Prop) (S Sp : List α → Prop) (w : World) : Prop :=
  ∀ (l : Nat) (J Jx : List α → World → Prop) (W : World), Below w.heap.size w W → AbidesFrom W.heap.size J → AbidesFrom W.heap.size Jx →
    (∀ pre x W0 W1, J pre W0 → J pre W1 → KeptC W0 W1 → Ok pre x W0 W1 → YieldAt F (n - 1) P l (encs x) W1 fun e W' =>
      (e = .returned (.bool true) ∧ J (pre ++ [x]) W' ∧ Kp W1 W') ∨ (e = .returned (.bool false) ∧ Jx (pre ++ [x]) W')) →
    J [] W →
    CallsIn F n P g (#[.func (.yield l) #[] #[]] ++ lb) W fun e W' => (∃ v, e = .returned v) ∧ ((∃ xs, S xs ∧ J xs W') ∨ (∃ pre, Sp pre ∧ Jx pre W'))

variable {F : Fence} {n : Nat} {P : Program}

set_option maxHeartbeats 1000000 in
/-- the caller's law -/
theorem wpIn_rangeOk {α : Type} {g : Operand} {ps : Array Tmp} {assign body : Code} {Q : Exit → Act → World → Prop} {a : Act} {w : World}
    (hro : F.round = none) (h1 : 1 ≤ n) {gf : Nat} {lb : Array Value} (hg : a.eval g = .func (.func gf) #[] lb) (hFg : F.fn gf) (eg : ∀ args w, (callFunc gf args).run P w = .ok (.enter gf args) w)
    {encs : α → Array Value} {Kp : World → World → Prop} {Ok : List α → α → World → World → Prop} {S Sp : List α → Prop} {w0 : World} (hseq : SeqOk F (n - 1) P gf lb encs Kp Ok S Sp w0)
    (hKt : ∀ {A B C : World}, Kp A B → Kp B C → Kp A C) (hKb : ∀ (W : World) (l : Nat) (o o' : Obj), w.heap.size ≤ l → W.heap[l]? = some o → o.isCells = false → o.isWalk = false → Kp W (W.putObj l o'))
    (hOk : ∀ pre x (W0 W : World) (l : Nat) (o o' : Obj), Ok pre x W0 W → W.heap[l]? = some o → o.isCells = false → Ok pre x W0 (W.putObj l o'))
    (hb0 : Below w0.heap.size w0 w) (hps : ∀ x, (encs x).size = ps.size)
    (I : List α → World → Prop) (Ix : Code → List α → World → Prop) (hI : OwnFrom w.heap.size I) (hIx : ∀ c, OwnFrom w.heap.size (Ix c)) (h0 : I [] w) (a₁ : α → Act)
    (hassign : ∀ (l : Nat) (x : α) (W : World) (K : Act → World → Prop), K (a₁ x) W →
      assign.wpIn (F.inRound l) (n - 1 - 1) P (Exit.then K (fun _ _ _ => False)) { tmps := (ps.zip (encs x)).foldl (fun t (p, v) => t.setIfInBounds p v) a.tmps, defers := [] } W)
    (hbody : ∀ (l : Nat) (pre : List α) (x : α) (W0 W : World), I pre W0 → I pre W → KeptC W0 W → Ok pre x W0 W → body.wpIn (F.inRound l) (n - 1 - 1) P (ownPostG w.heap.size Kp I Ix (pre ++ [x]) W) (a₁ x) W)
    (hdone : ∀ (D : Nat) (xs : List α) (W : World), w.heap.size ≤ D → S xs → I xs W → W.heap[D]? = some (.deferred (some [])) → Q .normal { a with defers := { target := .collected D, args := #[] } :: a.defers } W)
    (hstop : ∀ (D : Nat) (c : Code) (pre : List α) (W : World), w.heap.size ≤ D → Sp pre → Ix c pre W → W.heap[D]? = some (.deferred (some [])) → c.wpIn F n P Q { a with defers := { target := .collected D, args := #[] } :: a.defers } W) :
    (Code.rangeFunc g ps assign body).wpIn F n P Q a w := by
  refine wpIn_rangeFunc fun fn hfn => ?_
  rw [hro]
  -- D the block for the rounds' deferred calls, R the loop's record
  obtain ⟨D, hD⟩ : ∃ D, D = w.heap.size := ⟨_, rfl⟩
  obtain ⟨rec, hrec⟩ : ∃ rec : LoopState → Option Code → Loop, rec = fun st pe => { state := st, pending := pe, fn, tmps := a.tmps, params := ps, assign, body, defers := D } := ⟨_, rfl⟩
  obtain ⟨V, hV⟩ : ∃ V, V = (w.alloc (.deferred (some []))).alloc (.loop (rec .ready none)) := ⟨_, rfl⟩
  have hsz : V.heap.size = D + 2 := by rw [hV, hD]; simp
  have hrun : (Instr.enterLoop fn a.tmps ps assign body none).run P w = .ok (D + 1, [{ target := .collected D, args := #[] }]) V := by
    rw [hV, hrec, hD]; exact run_enterLoop_outer _ _ _ _ _
  have hVl : V.heap[D + 1]? = some (.loop (rec .ready none)) := by
    have h := World.alloc_heap_new (w.alloc (.deferred (some []))) (.loop (rec .ready none))
    rw [World.size_alloc, ← hD] at h
    rw [hV]; exact h
  have hVd : V.heap[D]? = some (.deferred (some [])) := by
    rw [hV, hD]; exact (Below.heap_alloc _ _ _ (by simp)).trans (World.alloc_heap_new w _)
  have hVI : I [] V := by rw [hV]; exact hI.alloc _ (hI.alloc _ h0)
  have hVb : Below w0.heap.size w0 V := by
    rw [hV]; exact hb0.trans ((((Below.refl _ w).alloc (Nat.le_refl _) _).alloc (by simp) _).mono hb0.size)
  have hDw : w.heap.size ≤ D := by omega
  clear hV
  -- the two facts of the law's own, kept by what turns other blocks
  have two : ∀ {A B : World} {row : Option Nat} (o1 o2 : Obj), o1.isCells = false → o2.isCells = false → o1.isWalk = false → o2.isWalk = false → A.grownBy B row → (∀ r, row = some r → V.heap.size ≤ r ∧ ∃ o : Obj, A.heap[r]? = some o ∧ o.isWalk = true) →
      A.heap[D + 1]? = some o1 → A.heap[D]? = some o2 → B.heap[D + 1]? = some o1 ∧ B.heap[D]? = some o2 := by
    intro A B row o1 o2 _ _ _ _ hgr hr e1 e2
    have ne : ∀ k, k < V.heap.size → row ≠ some k := fun k hk e => by have := (hr k e).1; omega
    have h1 := (Array.getElem?_eq_some_iff.1 e1).1
    have h2 := (Array.getElem?_eq_some_iff.1 e2).1
    exact ⟨(hgr.block _ h1 (Ne.symm (ne (D + 1) (by omega)))).trans e1, (hgr.block _ h2 (Ne.symm (ne D (by omega)))).trans e2⟩
  have nw : ∀ {A : World} {row : Option Nat}, (∀ r, row = some r → V.heap.size ≤ r ∧ ∃ o : Obj, A.heap[r]? = some o ∧ o.isWalk = true) → (∀ r, row = some r → w.heap.size ≤ r ∧ ∃ o : Obj, A.heap[r]? = some o ∧ o.isCells = false) :=
    fun hr r e => by obtain ⟨hB, o, ho, hw⟩ := hr r e; exact ⟨by omega, o, ho, Obj.not_cells_of_walk hw⟩
  refine ⟨D + 1, _, V, { target := .fn (.func gf) lb, args := #[.func (.yield (D + 1)) #[] #[]] }, V, gf, #[.func (.yield (D + 1)) #[] #[]] ++ lb, V, hrun, ?_, ?_, ?_, fun _ => h1, ?_⟩
  · simp only [resolve, hg]
    simp [go_sem]
  · intro f' hf'
    simp [Target.leads] at hf'
    subst hf'
    exact hFg
  · simp [invoke, go_sem, eg]
  refine CallsIn.mono (hseq (D + 1) (fun pre W => I pre W ∧ W.heap[D + 1]? = some (.loop (rec .ready none)) ∧ W.heap[D]? = some (.deferred (some [])))
    (fun pre W => ∃ c, Ix c pre W ∧ W.heap[D + 1]? = some (.loop (rec .done (some c))) ∧ W.heap[D]? = some (.deferred (some []))) V hVb
    (fun s A B row hs hgr hr => ⟨hI s A B row hs.1 hgr (nw hr), two _ _ rfl rfl rfl rfl hgr hr hs.2.1 hs.2.2⟩)
    (fun s A B row ⟨c, hc, e1, e2⟩ hgr hr => ⟨c, hIx c s A B row hc hgr (nw hr), two _ _ rfl rfl rfl rfl hgr hr e1 e2⟩) ?_ ⟨hVI, hVl, hVd⟩) ?_
  · rintro pre x W0 W ⟨hi0, _, _⟩ ⟨hi, hl, hk⟩ hkc hok
    obtain ⟨U, hU⟩ : ∃ U, U = W.putObj (D + 1) (.loop { rec .ready none with state := .busy }) := ⟨_, rfl⟩
    have hy := run_yield (P := P) (args := encs x) hl (by rw [hrec]; exact hps x)
    rw [hrec] at hy
    have hbeg : (Instr.beginRound (D + 1)).run P W = .ok () U := by rw [hU]; exact run_beginRound hl (by rw [hrec])
    refine ⟨fn, _, assign, body, hy, roundIn_of_wpIn hfn (hassign _ x W _ ⟨U, hbeg, ?_⟩)⟩
    have hUl : U.heap[D + 1]? = some (.loop { rec .ready none with state := .busy }) := by rw [hU]; exact World.putObj_heap_same (Array.getElem?_eq_some_iff.1 hl).1
    have hUd : U.heap[D]? = some (.deferred (some [])) := by rw [hU]; exact (World.putObj_heap_other (by omega)).trans hk
    have hUK : Kp W U := by rw [hU]; exact hKb _ _ _ _ (by omega) hl rfl rfl
    have hUI : I pre U := by rw [hU]; exact hI.putObj _ hi (by omega) hl rfl
    have hUC : KeptC W0 U := by rw [hU]; exact hkc.put _ _ hl rfl
    have hUO : Ok pre x W0 U := by rw [hU]; exact hOk _ _ _ _ _ _ _ hok hl rfl
    clear hU hbeg
    refine wpIn_mono (hbody _ pre x W0 U hi0 hUI hUC hUO) ?_
    -- the round's end
    have fin : ∀ (j : Option Code) (X : World), KeepsFrom w.heap.size U X → ∃ Y, Y = X.putObj (D + 1) (.loop (rec (if j.isNone then .ready else .done) j)) ∧
        (Instr.endRound (D + 1) j).run P X = .ok (.bool j.isNone) Y ∧ X.heap[D + 1]? = some (.loop { rec .ready none with state := .busy }) ∧ Y.heap[D + 1]? = some (.loop (rec (if j.isNone then .ready else .done) j)) ∧ Y.heap[D]? = some (.deferred (some [])) := by
      intro j X hX
      have e1 := hX.same _ _ (by omega) hUl rfl
      have e2 := hX.same _ _ hDw hUd rfl
      have hr := run_endRound (P := P) j e1
      rw [hrec] at hr
      refine ⟨_, rfl, ?_, e1, World.putObj_heap_same (Array.getElem?_eq_some_iff.1 e1).1, (World.putObj_heap_other (by omega)).trans e2⟩
      rw [hrec]
      exact hr
    have leave : ∀ (c : Code) (X : World), KeepsFrom w.heap.size U X → Ix c (pre ++ [x]) X → ∃ Y, (Instr.endRound (D + 1) (some c)).run P X = .ok (.bool false) Y ∧ Ix c (pre ++ [x]) Y ∧ Y.heap[D + 1]? = some (.loop (rec .done (some c))) ∧ Y.heap[D]? = some (.deferred (some [])) := by
      intro c X hX hx
      obtain ⟨Y, hY, hr, e0, e1, e2⟩ := fin (some c) X hX
      refine ⟨Y, hr, ?_, e1, e2⟩
      rw [hY]
      exact (hIx c).putObj _ hx (by omega) e0 rfl
    rintro e a3 X hp
    cases e with
    | normal =>
      obtain ⟨hX, hXK, hXI⟩ := hp
      obtain ⟨Y, hY, hr, e0, e1, e2⟩ := fin none X hX
      refine ⟨_, _, hr, .inl ⟨rfl, ⟨?_, e1, e2⟩, ?_⟩⟩
      · rw [hY]; exact hI.putObj _ hXI (by omega) e0 rfl
      · rw [hY]; exact hKt (hKt hUK hXK) (hKb _ _ _ _ (by omega) e0 rfl rfl)
    | ret => obtain ⟨Y, hr, h2, h3, h4⟩ := leave .ret X hp.1 hp.2; exact ⟨_, _, hr, .inr ⟨rfl, .ret, h2, h3, h4⟩⟩
    | exit id => obtain ⟨Y, hr, h2, h3, h4⟩ := leave (.exit id) X hp.1 hp.2; exact ⟨_, _, hr, .inr ⟨rfl, .exit id, h2, h3, h4⟩⟩
    | goto t => obtain ⟨Y, hr, h2, h3, h4⟩ := leave (.goto t) X hp.1 hp.2; exact ⟨_, _, hr, .inr ⟨rfl, .goto t, h2, h3, h4⟩⟩
    | panic ch => exact hp.elim
    | outgrown => exact hp.elim
  · rintro e X ⟨⟨v, rfl⟩, (⟨xs, hS, hi, hl, hk⟩ | ⟨pre, hSp, c, hi, hl, hk⟩)⟩
    · have hr := run_endLoop (P := P) hl (by rw [hrec]; simp)
      rw [hrec] at hr
      exact ⟨none, _, hr, hdone _ xs _ hDw hS (hI.putObj _ hi (by omega) hl rfl) ((World.putObj_heap_other (by omega)).trans hk)⟩
    · have hr := run_endLoop (P := P) hl (by rw [hrec]; simp)
      rw [hrec] at hr
      exact ⟨some c, _, hr, hstop _ c pre _ hDw hSp ((hIx c).putObj _ hi (by omega) hl rfl) ((World.putObj_heap_other (by omega)).trans hk)⟩

/-! a region that draws its order, in a round of the wide fence -/

def noDefer (ops : Array Oper) : Bool := ops.all fun o => match o.op with | .defer _ => false | _ => true
theorem noDefer_at {ops : Array Oper} (h : noDefer ops = true) {i : Nat} {o : Oper} (ho : ops[i]? = some o) : ∀ c, o.op ≠ .defer c := by
  intro c e
  obtain ⟨hi, rfl⟩ := Array.getElem?_eq_some_iff.1 ho
  have h' := Array.all_eq_true.1 h i hi
  rw [e] at h'
  cases h'
/-- only the way on -/
def QN (R : Act → World → Prop) : Exit → Act → World → Prop := fun x a w => x = .normal ∧ R a w
theorem not_lets (R : Act → World → Prop) : ¬ LetsOut (QN R) := fun ⟨_, _, h, _⟩ => by cases h
theorem rows_wide {l n : Nat} {P : Program} {row : String} {args : Array Value} {w : World} {R : Value → World → Prop} (h : Rows P row args w R) : RowsIn (Fence.wide.inRound l) n P row args w R :=
  fun c cs _ => let ⟨v, w', r, s⟩ := h c cs; ⟨v, w', r, stepsIn_wide.2 s⟩
theorem calls_wide {l n : Nat} {P : Program} {f : FuncId} {args : Array Value} {w : World} {R : Ending → World → Prop} (h : Calls P f args w R) : CallsIn (Fence.wide.inRound l) n P f args w R :=
  CallsIn.inRound l (callsIn_wide.2 h)
theorem wpOps_in {l n : Nat} {P : Program} {ops : Array Oper} {Q : Exit → Act → World → Prop} (hnd : noDefer ops = true) : ∀ (L : List Nat) (a : Act) (w : World),
    wpOps P ops (QN fun a w => Q .normal a w) L a w → wpOpsIn (Fence.wide.inRound l) n P ops Q L a w
  | [], a, w, h => h.2
  | i :: rest, a, w, h => by
    unfold wpOps at h
    unfold wpOpsIn
    cases ho : ops[i]? with
    | none => simp only [ho] at h ⊢; exact wpOps_in hnd rest a w h
    | some o =>
      simp only [ho] at h ⊢
      by_cases hw : Region.wanted o (yielded ops a.tmps) = true
      · rw [if_pos hw] at h ⊢
        rcases h with h | ⟨_, h⟩
        · refine ⟨fun _ _ => trivial, ?_⟩
          rw [Oper.semAt_eq _ _ _ (noDefer_at hnd ho)]
          unfold Oper.wp at h
          generalize (execOp a.eval o).run P w = r at h ⊢
          cases r with
          | ok x w' =>
            cases x <;> simp only [Oper.upon, Oper.uponIn] at h ⊢
            case value u => exact wpOps_in hnd rest _ _ h
            case skip => exact wpOps_in hnd rest _ _ h
            case defer d => exact wpOps_in hnd rest _ _ h
            case enter f args =>
              refine ⟨fun e => (by cases e), calls_wide (h.mono fun e w'' he => ?_)⟩
              cases e with
              | returned u => exact wpOps_in hnd rest _ _ he
              | panicked c => cases he.1
              | outgrown => exact absurd he (not_lets _)
            case row row args => exact ⟨fun e => (by cases e), rows_wide (h.mono fun u w'' he => wpOps_in hnd rest _ _ he)⟩
          | halt x w' =>
            cases x <;> simp only [Oper.upon, Oper.uponIn] at h ⊢
            case panic u => cases h.1
        · exact absurd h (not_lets _)
      · rw [if_neg hw] at h ⊢
        exact ⟨fun _ _ => trivial, wpOps_in hnd rest _ _ h⟩
theorem wpIn_any {l n : Nat} {P : Program} {ops : Array Oper} {Q : Exit → Act → World → Prop} {id : Nat} {a : Act} {w : World} (hnd : noDefer ops = true) (hm : P.follows .mixedOrders = true)
    (h : wpAny P .any ops (QN fun a w => Q .normal a w) ops.size (Array.replicate ops.size false) a w.drew) : (Code.region id ops true).wpIn (Fence.wide.inRound l) n P Q a w := by
  refine wpIn_region_draw fun t => wpOps_in hnd _ _ _ ?_
  simp only [Region.schedule, hm, Bool.true_or, if_true]
  exact wpAny_sound ops.size t _ a _ h
theorem wpIn_regionX (S : World → Prop) (L : Nat) {l n : Nat} {P : Program} {ops : Array Oper} {Q : Exit → Act → World → Prop} {id : Nat} {a : Act} {w : World} (hnd : noDefer ops = true) (hm : P.follows .mixedOrders = true) (hS : S w.drew)
    (h : wpX P .any ops (QN fun a w => Q .normal a w) L ops.size S (Array.replicate ops.size false) a) : (Code.region id ops true).wpIn (Fence.wide.inRound l) n P Q a w :=
  wpIn_any hnd hm (wpX_any _ _ _ _ _ h hS)

end Go.Proofs.Ythemlaibjchjpaa
