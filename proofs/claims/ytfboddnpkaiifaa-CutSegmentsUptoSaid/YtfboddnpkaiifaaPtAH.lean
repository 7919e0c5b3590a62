/- Helpers and contracts of the proofs over this seat: Iter, Chunks, Iter2, Segs, SegMath, Iter3, Nc, CutWholeL. Each states what a function of the program answers, or is plain Lean; its conditions stand in each statement. -/
import Derived.RangeFuncNested
import Derived.RangeFuncBound
import Derived.RangeFuncCalls
import Derived.RangeFuncLeaves
import Derived.Shelf.Abstract
import Derived.Shelf.RegionOpen
import Derived.WalkKit
import Derived.OwnWalkIn
import Derived.TacticsInMore
import Derived.LoopNIn
import Derived.LoopIn
import Derived.Test.YtfboddnpkaiifaaPtAA
import Derived.Test.YtfboddnpkaiifaaPtAB
import Derived.Test.YtfboddnpkaiifaaPtAC
import Derived.Test.YtfboddnpkaiifaaPtAD
import Derived.Test.YtfboddnpkaiifaaPtAF
import Derived.Test.YtfboddnpkaiifaaPtAG
set_option linter.unusedVariables false
/- A range over a function whose iterator makes memory for what it tells: the round is told what lies in that memory. And: a region that draws its order, in a round. -/
namespace Go.Proofs.Ytfboddnpkaiifaa
open Go.RowKit Go.Shelf

/-- cells that lay lie as they lay -/
structure KeptC (W W' : World) : Prop where
  size : W.heap.size ≤ W'.heap.size
  same : ∀ (k : Nat) (o : Obj), W.heap[k]? = some o → o.isCells = true → W'.heap[k]? = some o
theorem KeptC.refl (W : World) : KeptC W W := ⟨Nat.le_refl _, fun _ _ h _ => h⟩
theorem KeptC.put {W W' : World} (h : KeptC W W') (l : Nat) {o : Obj} (o' : Obj) (hl : W'.heap[l]? = some o) (ho : o.isCells = false) : KeptC W (W'.putObj l o') :=
  ⟨Nat.le_trans h.size (grownBy_putObj' W' l o').size, fun k o2 hk h2 => by
    have h3 := h.same k o2 hk h2
    by_cases e : k = l
    · subst e; rw [hl] at h3; injection h3 with h3; subst h3; rw [ho] at h2; cases h2
    · exact (World.putObj_heap_other (by omega)).trans h3⟩
theorem KeptC.of {W W' : World} (h : W.grownBy W' none) : KeptC W W' := ⟨h.size, fun k o hk _ => (h.block k (Array.getElem?_eq_some_iff.1 hk).1 (by simp)).trans hk⟩

/-- what an iterator does that tells each round what it has made for it: W0 the world ahead of the making, W1 behind -/
def SeqOk {α : Type} (F : Fence) (n : Nat) (P : Program) (g : Nat) (lb : Array Value) (encs : α → Array Value) (Kp : World → World → Prop) (Ok : List α → α → World → World → Prop) (S Sp : List α → Prop) (w : World) : Prop :=
  ∀ (l : Nat) (J Jx : List α → World → Prop) (W : World), Below w.heap.size w W → AbidesFrom W.heap.size J → AbidesFrom W.heap.size Jx →
    (∀ pre x W0 W1, J pre W0 → J pre W1 → KeptC W0 W1 → Ok pre x W0 W1 → YieldAt F (n - 1) P l (encs x) W1 fun e W' =>
      (e = .returned (.bool true) ∧ J (pre ++ [x]) W' ∧ Kp W1 W') ∨ (e = .returned (.bool false) ∧ Jx (pre ++ [x]) W')) →
    J [] W →
    CallsIn F n P g (#[.func (.yield l) #[] #[]] ++ lb) W fun e W' => (∃ v, e = .returned v) ∧ ((∃ xs, S xs ∧ J xs W') ∨ (∃ pre, Sp pre ∧ Jx pre W'))

variable {F : Fence} {n : Nat} {P : Program}

set_option maxHeartbeats 1000000 in
/-- the caller's law -/
theorem wpIn_rangeOk {α : Type} {g : Operand} {ps : Array Tmp} {assign body : Code} {Q : Exit → Act → World → Prop} {a : Act} {w : World}
    (hro : F.round = none) (h1 : 1 ≤ n) {gf : Nat} {lb : Array Value} (hg : a.eval g = .func (.func gf) #[] lb) (hFg : F.fn gf) (eg : ∀ args w, (callFunc gf args).run P w = .ok (.enter gf args) w)
    {encs : α → Array Value} {Kp : World → World → Prop} {Ok : List α → α → World → World → Prop} {S Sp : List α → Prop} {w0 : World} (hseq : SeqOk F (n - 1) P gf lb encs Kp Ok S Sp w0)
    (hKt : ∀ {A B C : World}, Kp A B → Kp B C → Kp A C) (hKb : ∀ (W : World) (l : Nat) (o o' : Obj), w.heap.size ≤ l → W.heap[l]? = some o → o.isCells = false → o.isWalk = false → Kp W (W.putObj l o'))
    (hOk : ∀ pre x (W0 W : World) (l : Nat) (o o' : Obj), Ok pre x W0 W → W.heap[l]? = some o → o.isCells = false → Ok pre x W0 (W.putObj l o'))
    (hb0 : Below w0.heap.size w0 w) (hps : ∀ x, (encs x).size = ps.size)
    (I : List α → World → Prop) (Ix : Code → List α → World → Prop) (hI : OwnFrom w.heap.size I) (hIx : ∀ c, OwnFrom w.heap.size (Ix c)) (h0 : I [] w) (a₁ : α → Act)
    (hassign : ∀ (l : Nat) (x : α) (W : World) (K : Act → World → Prop), K (a₁ x) W →
      assign.wpIn (F.inRound l) (n - 1 - 1) P (Exit.then K (fun _ _ _ => False)) { tmps := (ps.zip (encs x)).foldl (fun t (p, v) => t.setIfInBounds p v) a.tmps, defers := [] } W)
    (hbody : ∀ (l : Nat) (pre : List α) (x : α) (W0 W : World), I pre W0 → I pre W → KeptC W0 W → Ok pre x W0 W → body.wpIn (F.inRound l) (n - 1 - 1) P (ownPostG w.heap.size Kp I Ix (pre ++ [x]) W) (a₁ x) W)
    (hdone : ∀ (D : Nat) (xs : List α) (W : World), w.heap.size ≤ D → S xs → I xs W → W.heap[D]? = some (.deferred (some [])) → Q .normal { a with defers := { target := .collected D, args := #[] } :: a.defers } W)
    (hstop : ∀ (D : Nat) (c : Code) (pre : List α) (W : World), w.heap.size ≤ D → Sp pre → Ix c pre W → W.heap[D]? = some (.deferred (some [])) → c.wpIn F n P Q { a with defers := { target := .collected D, args := #[] } :: a.defers } W) :
    (Code.rangeFunc g ps assign body).wpIn F n P Q a w := by
  refine wpIn_rangeFunc fun fn hfn => ?_
  rw [hro]
  -- D the block for the rounds' deferred calls, R the loop's record
  obtain ⟨D, hD⟩ : ∃ D, D = w.heap.size := ⟨_, rfl⟩
  obtain ⟨rec, hrec⟩ : ∃ rec : LoopState → Option Code → Loop, rec = fun st pe => { state := st, pending := pe, fn, tmps := a.tmps, params := ps, assign, body, defers := D } := ⟨_, rfl⟩
  obtain ⟨V, hV⟩ : ∃ V, V = (w.alloc (.deferred (some []))).alloc (.loop (rec .ready none)) := ⟨_, rfl⟩
  have hsz : V.heap.size = D + 2 := by rw [hV, hD]; simp
  have hrun : (Instr.enterLoop fn a.tmps ps assign body none).run P w = .ok (D + 1, [{ target := .collected D, args := #[] }]) V := by
    rw [hV, hrec, hD]; exact run_enterLoop_outer _ _ _ _ _
  have hVl : V.heap[D + 1]? = some (.loop (rec .ready none)) := by
    have h := World.alloc_heap_new (w.alloc (.deferred (some []))) (.loop (rec .ready none))
    rw [World.size_alloc, ← hD] at h
    rw [hV]; exact h
  have hVd : V.heap[D]? = some (.deferred (some [])) := by
    rw [hV, hD]; exact (Below.heap_alloc _ _ _ (by simp)).trans (World.alloc_heap_new w _)
  have hVI : I [] V := by rw [hV]; exact hI.alloc _ (hI.alloc _ h0)
  have hVb : Below w0.heap.size w0 V := by
    rw [hV]; exact hb0.trans ((((Below.refl _ w).alloc (Nat.le_refl _) _).alloc (by simp) _).mono hb0.size)
  have hDw : w.heap.size ≤ D := by omega
  clear hV
  -- the two facts of the law's own, kept by what turns other blocks
  have two : ∀ {A B : World} {row : Option Nat} (o1 o2 : Obj), o1.isCells = false → o2.isCells = false → o1.isWalk = false → o2.isWalk = false → A.grownBy B row → (∀ r, row = some r → V.heap.size ≤ r ∧ ∃ o : Obj, A.heap[r]? = some o ∧ o.isWalk = true) →
      A.heap[D + 1]? = some o1 → A.heap[D]? = some o2 → B.heap[D + 1]? = some o1 ∧ B.heap[D]? = some o2 := by
    intro A B row o1 o2 _ _ _ _ hgr hr e1 e2
    have ne : ∀ k, k < V.heap.size → row ≠ some k := fun k hk e => by have := (hr k e).1; omega
    have h1 := (Array.getElem?_eq_some_iff.1 e1).1
    have h2 := (Array.getElem?_eq_some_iff.1 e2).1
    exact ⟨(hgr.block _ h1 (Ne.symm (ne (D + 1) (by omega)))).trans e1, (hgr.block _ h2 (Ne.symm (ne D (by omega)))).trans e2⟩
  have nw : ∀ {A : World} {row : Option Nat}, (∀ r, row = some r → V.heap.size ≤ r ∧ ∃ o : Obj, A.heap[r]? = some o ∧ o.isWalk = true) → (∀ r, row = some r → w.heap.size ≤ r ∧ ∃ o : Obj, A.heap[r]? = some o ∧ o.isCells = false) :=
    fun hr r e => by obtain ⟨hB, o, ho, hw⟩ := hr r e; exact ⟨by omega, o, ho, Obj.not_cells_of_walk hw⟩
  refine ⟨D + 1, _, V, { target := .fn (.func gf) lb, args := #[.func (.yield (D + 1)) #[] #[]] }, V, gf, #[.func (.yield (D + 1)) #[] #[]] ++ lb, V, hrun, ?_, ?_, ?_, fun _ => h1, ?_⟩
  · simp only [resolve, hg]
    simp [go_sem]
  · intro f' hf'
    simp [Target.leads] at hf'
    subst hf'
    exact hFg
  · simp [invoke, go_sem, eg]
  refine CallsIn.mono (hseq (D + 1) (fun pre W => I pre W ∧ W.heap[D + 1]? = some (.loop (rec .ready none)) ∧ W.heap[D]? = some (.deferred (some [])))
    (fun pre W => ∃ c, Ix c pre W ∧ W.heap[D + 1]? = some (.loop (rec .done (some c))) ∧ W.heap[D]? = some (.deferred (some []))) V hVb
    (fun s A B row hs hgr hr => ⟨hI s A B row hs.1 hgr (nw hr), two _ _ rfl rfl rfl rfl hgr hr hs.2.1 hs.2.2⟩)
    (fun s A B row ⟨c, hc, e1, e2⟩ hgr hr => ⟨c, hIx c s A B row hc hgr (nw hr), two _ _ rfl rfl rfl rfl hgr hr e1 e2⟩) ?_ ⟨hVI, hVl, hVd⟩) ?_
  · rintro pre x W0 W ⟨hi0, _, _⟩ ⟨hi, hl, hk⟩ hkc hok
    obtain ⟨U, hU⟩ : ∃ U, U = W.putObj (D + 1) (.loop { rec .ready none with state := .busy }) := ⟨_, rfl⟩
    have hy := run_yield (P := P) (args := encs x) hl (by rw [hrec]; exact hps x)
    rw [hrec] at hy
    have hbeg : (Instr.beginRound (D + 1)).run P W = .ok () U := by rw [hU]; exact run_beginRound hl (by rw [hrec])
    refine ⟨fn, _, assign, body, hy, roundIn_of_wpIn hfn (hassign _ x W _ ⟨U, hbeg, ?_⟩)⟩
    have hUl : U.heap[D + 1]? = some (.loop { rec .ready none with state := .busy }) := by rw [hU]; exact World.putObj_heap_same (Array.getElem?_eq_some_iff.1 hl).1
    have hUd : U.heap[D]? = some (.deferred (some [])) := by rw [hU]; exact (World.putObj_heap_other (by omega)).trans hk
    have hUK : Kp W U := by rw [hU]; exact hKb _ _ _ _ (by omega) hl rfl rfl
    have hUI : I pre U := by rw [hU]; exact hI.putObj _ hi (by omega) hl rfl
    have hUC : KeptC W0 U := by rw [hU]; exact hkc.put _ _ hl rfl
    have hUO : Ok pre x W0 U := by rw [hU]; exact hOk _ _ _ _ _ _ _ hok hl rfl
    clear hU hbeg
    refine wpIn_mono (hbody _ pre x W0 U hi0 hUI hUC hUO) ?_
    -- the round's end
    have fin : ∀ (j : Option Code) (X : World), KeepsFrom w.heap.size U X → ∃ Y, Y = X.putObj (D + 1) (.loop (rec (if j.isNone then .ready else .done) j)) ∧
        (Instr.endRound (D + 1) j).run P X = .ok (.bool j.isNone) Y ∧ X.heap[D + 1]? = some (.loop { rec .ready none with state := .busy }) ∧ Y.heap[D + 1]? = some (.loop (rec (if j.isNone then .ready else .done) j)) ∧ Y.heap[D]? = some (.deferred (some [])) := by
      intro j X hX
      have e1 := hX.same _ _ (by omega) hUl rfl
      have e2 := hX.same _ _ hDw hUd rfl
      have hr := run_endRound (P := P) j e1
      rw [hrec] at hr
      refine ⟨_, rfl, ?_, e1, World.putObj_heap_same (Array.getElem?_eq_some_iff.1 e1).1, (World.putObj_heap_other (by omega)).trans e2⟩
      rw [hrec]
      exact hr
    have leave : ∀ (c : Code) (X : World), KeepsFrom w.heap.size U X → Ix c (pre ++ [x]) X → ∃ Y, (Instr.endRound (D + 1) (some c)).run P X = .ok (.bool false) Y ∧ Ix c (pre ++ [x]) Y ∧ Y.heap[D + 1]? = some (.loop (rec .done (some c))) ∧ Y.heap[D]? = some (.deferred (some [])) := by
      intro c X hX hx
      obtain ⟨Y, hY, hr, e0, e1, e2⟩ := fin (some c) X hX
      refine ⟨Y, hr, ?_, e1, e2⟩
      rw [hY]
      exact (hIx c).putObj _ hx (by omega) e0 rfl
    rintro e a3 X hp
    cases e with
    | normal =>
      obtain ⟨hX, hXK, hXI⟩ := hp
      obtain ⟨Y, hY, hr, e0, e1, e2⟩ := fin none X hX
      refine ⟨_, _, hr, .inl ⟨rfl, ⟨?_, e1, e2⟩, ?_⟩⟩
      · rw [hY]; exact hI.putObj _ hXI (by omega) e0 rfl
      · rw [hY]; exact hKt (hKt hUK hXK) (hKb _ _ _ _ (by omega) e0 rfl rfl)
    | ret => obtain ⟨Y, hr, h2, h3, h4⟩ := leave .ret X hp.1 hp.2; exact ⟨_, _, hr, .inr ⟨rfl, .ret, h2, h3, h4⟩⟩
    | exit id => obtain ⟨Y, hr, h2, h3, h4⟩ := leave (.exit id) X hp.1 hp.2; exact ⟨_, _, hr, .inr ⟨rfl, .exit id, h2, h3, h4⟩⟩
    | goto t => obtain ⟨Y, hr, h2, h3, h4⟩ := leave (.goto t) X hp.1 hp.2; exact ⟨_, _, hr, .inr ⟨rfl, .goto t, h2, h3, h4⟩⟩
    | panic ch => exact hp.elim
    | outgrown => exact hp.elim
  · rintro e X ⟨⟨v, rfl⟩, (⟨xs, hS, hi, hl, hk⟩ | ⟨pre, hSp, c, hi, hl, hk⟩)⟩
    · have hr := run_endLoop (P := P) hl (by rw [hrec]; simp)
      rw [hrec] at hr
      exact ⟨none, _, hr, hdone _ xs _ hDw hS (hI.putObj _ hi (by omega) hl rfl) ((World.putObj_heap_other (by omega)).trans hk)⟩
    · have hr := run_endLoop (P := P) hl (by rw [hrec]; simp)
      rw [hrec] at hr
      exact ⟨some c, _, hr, hstop _ c pre _ hDw hSp ((hIx c).putObj _ hi (by omega) hl rfl) ((World.putObj_heap_other (by omega)).trans hk)⟩

/-! a region that draws its order, in a round of the wide fence -/

def noDefer (ops : Array Oper) : Bool := ops.all fun o => match o.op with | .defer _ => false | _ => true
theorem noDefer_at {ops : Array Oper} (h : noDefer ops = true) {i : Nat} {o : Oper} (ho : ops[i]? = some o) : ∀ c, o.op ≠ .defer c := by
  intro c e
  obtain ⟨hi, rfl⟩ := Array.getElem?_eq_some_iff.1 ho
  have h' := Array.all_eq_true.1 h i hi
  rw [e] at h'
  cases h'
/-- only the way on -/
def QN (R : Act → World → Prop) : Exit → Act → World → Prop := fun x a w => x = .normal ∧ R a w
theorem not_lets (R : Act → World → Prop) : ¬ LetsOut (QN R) := fun ⟨_, _, h, _⟩ => by cases h
theorem rows_wide {l n : Nat} {P : Program} {row : String} {args : Array Value} {w : World} {R : Value → World → Prop} (h : Rows P row args w R) : RowsIn (Fence.wide.inRound l) n P row args w R :=
  fun c cs _ => let ⟨v, w', r, s⟩ := h c cs; ⟨v, w', r, stepsIn_wide.2 s⟩
theorem calls_wide {l n : Nat} {P : Program} {f : FuncId} {args : Array Value} {w : World} {R : Ending → World → Prop} (h : Calls P f args w R) : CallsIn (Fence.wide.inRound l) n P f args w R :=
  CallsIn.inRound l (callsIn_wide.2 h)
theorem wpOps_in {l n : Nat} {P : Program} {ops : Array Oper} {Q : Exit → Act → World → Prop} (hnd : noDefer ops = true) : ∀ (L : List Nat) (a : Act) (w : World),
    wpOps P ops (QN fun a w => Q .normal a w) L a w → wpOpsIn (Fence.wide.inRound l) n P ops Q L a w
  | [], a, w, h => h.2
  | i :: rest, a, w, h => by
    unfold wpOps at h
    unfold wpOpsIn
    cases ho : ops[i]? with
    | none => simp only [ho] at h ⊢; exact wpOps_in hnd rest a w h
    | some o =>
      simp only [ho] at h ⊢
      by_cases hw : Region.wanted o (yielded ops a.tmps) = true
      · rw [if_pos hw] at h ⊢
        rcases h with h | ⟨_, h⟩
        · refine ⟨fun _ _ => trivial, ?_⟩
          rw [Oper.semAt_eq _ _ _ (noDefer_at hnd ho)]
          unfold Oper.wp at h
          generalize (execOp a.eval o).run P w = r at h ⊢
          cases r with
          | ok x w' =>
            cases x <;> simp only [Oper.upon, Oper.uponIn] at h ⊢
            case value u => exact wpOps_in hnd rest _ _ h
            case skip => exact wpOps_in hnd rest _ _ h
            case defer d => exact wpOps_in hnd rest _ _ h
            case enter f args =>
              refine ⟨fun e => (by cases e), calls_wide (h.mono fun e w'' he => ?_)⟩
              cases e with
              | returned u => exact wpOps_in hnd rest _ _ he
              | panicked c => cases he.1
              | outgrown => exact absurd he (not_lets _)
            case row row args => exact ⟨fun e => (by cases e), rows_wide (h.mono fun u w'' he => wpOps_in hnd rest _ _ he)⟩
          | halt x w' =>
            cases x <;> simp only [Oper.upon, Oper.uponIn] at h ⊢
            case panic u => cases h.1
        · exact absurd h (not_lets _)
      · rw [if_neg hw] at h ⊢
        exact ⟨fun _ _ => trivial, wpOps_in hnd rest _ _ h⟩
theorem wpIn_any {l n : Nat} {P : Program} {ops : Array Oper} {Q : Exit → Act → World → Prop} {id : Nat} {a : Act} {w : World} (hnd : noDefer ops = true) (hm : P.follows .mixedOrders = true)
    (h : wpAny P .any ops (QN fun a w => Q .normal a w) ops.size (Array.replicate ops.size false) a w.drew) : (Code.region id ops true).wpIn (Fence.wide.inRound l) n P Q a w := by
  refine wpIn_region_draw fun t => wpOps_in hnd _ _ _ ?_
  simp only [Region.schedule, hm, Bool.true_or, if_true]
  exact wpAny_sound ops.size t _ a _ h
theorem wpIn_regionX (S : World → Prop) (L : Nat) {l n : Nat} {P : Program} {ops : Array Oper} {Q : Exit → Act → World → Prop} {id : Nat} {a : Act} {w : World} (hnd : noDefer ops = true) (hm : P.follows .mixedOrders = true) (hS : S w.drew)
    (h : wpX P .any ops (QN fun a w => Q .normal a w) L ops.size S (Array.replicate ops.size false) a) : (Code.region id ops true).wpIn (Fence.wide.inRound l) n P Q a w :=
  wpIn_any hnd hm (wpX_any _ _ _ _ _ h hS)

end Go.Proofs.Ytfboddnpkaiifaa
/- Pieces with their places, as a range over a function tells them. (The plain part of octet.Chunks' text.) -/
namespace Go.Proofs.Ytfboddnpkaiifaa
open Go.RowKit Go.Shelf
attribute [local go_sem] Oper.semAt_some

/-- the pieces of a list, of Z + 1 bytes each, with their places -/
def chs (Z : Nat) (p : Nat) (l : List UInt8) : List (Nat × List UInt8) :=
  match l with
  | [] => []
  | x :: t => (p, (x :: t).take (Z + 1)) :: chs Z (p + min (Z + 1) (t.length + 1)) (t.drop Z)
termination_by l.length
decreasing_by simp; omega
theorem chs_nil (Z p : Nat) : chs Z p [] = [] := by rw [chs]
theorem chs_cons {Z p : Nat} {l : List UInt8} (h : l ≠ []) : chs Z p l = (p, l.take (Z + 1)) :: chs Z (p + min (Z + 1) l.length) (l.drop (Z + 1)) := by
  cases l with
  | nil => exact absurd rfl h
  | cons x t => rw [chs]; simp
/-- .. of a size -/
def chL (z : Int) (l : List UInt8) : List (Nat × List UInt8) := if z < 1 then [] else chs (z.toNat - 1) 0 l
/-- what came of a list of pieces -/
def flt (ps : List (Nat × List UInt8)) : List UInt8 := (ps.map (·.2)).flatten
theorem flt_nil : flt [] = [] := rfl
theorem flt_cons (x : Nat × List UInt8) (ps : List (Nat × List UInt8)) : flt (x :: ps) = x.2 ++ flt ps := by simp [flt]
theorem flt_app (ps qs : List (Nat × List UInt8)) : flt (ps ++ qs) = flt ps ++ flt qs := by simp [flt]
theorem flt_chs (Z : Nat) : ∀ (N p : Nat) (l : List UInt8), l.length ≤ N → flt (chs Z p l) = l := by
  intro N
  induction N with
  | zero => intro p l h; obtain rfl : l = [] := List.eq_nil_of_length_eq_zero (by omega); rw [chs_nil]; rfl
  | succ N ih =>
    intro p l h
    by_cases h0 : l = []
    · subst h0; rw [chs_nil]; rfl
    · rw [chs_cons h0, flt_cons, ih _ _ (by rw [List.length_drop]; omega)]
      exact List.take_append_drop _ _
/-- each piece stands where those ahead of it end -/
theorem chs_at (Z : Nat) : ∀ (ps : List (Nat × List UInt8)) (p t : Nat) (b : List UInt8) (r : List (Nat × List UInt8)) (l : List UInt8), ps ++ (t, b) :: r = chs Z p l → t = p + (flt ps).length
  | [], p, t, b, r, l, h => by
    by_cases h0 : l = []
    · subst h0; rw [chs_nil] at h; cases h
    · rw [chs_cons h0] at h
      simp only [List.nil_append, List.cons.injEq, Prod.mk.injEq] at h
      rw [h.1.1]; rfl
  | y :: ps, p, t, b, r, l, h => by
    by_cases h0 : l = []
    · subst h0; rw [chs_nil] at h; cases h
    · rw [chs_cons h0] at h
      simp only [List.cons_append, List.cons.injEq] at h
      have := chs_at Z ps _ t b r _ h.2
      rw [flt_cons, h.1, List.length_append, List.length_take, this]
      show _ = p + (min (Z + 1) l.length + (flt ps).length)
      omega

/-- a piece as it is told -/
structure Pce where
  at_ : Nat
  sl : Sl
  b : List UInt8
def Pce.vals (x : Pce) : Array Value := #[.int .i64 (x.at_ : Int), x.sl.val]
def Pce.pr (x : Pce) : Nat × List UInt8 := (x.at_, x.b)

/-- what the function that is given back holds -/
structure Chk (w : World) (B b1 b2 : Nat) (z : Int) (ao : Option Addr) (n co : Nat) (l : List UInt8) : Prop where
  size : Row w b1 3 #[.int .i64 z]
  box : Row w b2 22 #[.slice ao n co]
  own : BOwn w B ao n co l
  above : B ≤ b1 ∧ B ≤ b2
/-- its blocks -/
def Chk.S (b1 b2 : Nat) (ao : Option Addr) (co : Nat) (k : Nat) : Prop := k = b1 ∨ k = b2 ∨ In ao co k
/-- these lie as they lay -/
structure KeptS (S : Nat → Prop) (W W' : World) : Prop where
  size : W.heap.size ≤ W'.heap.size
  same : ∀ k, S k → k < W.heap.size → W'.heap[k]? = W.heap[k]?
theorem KeptS.refl (S : Nat → Prop) (W : World) : KeptS S W W := ⟨Nat.le_refl _, fun _ _ _ => rfl⟩
theorem KeptS.trans {S : Nat → Prop} {A B C : World} (h : KeptS S A B) (k : KeptS S B C) : KeptS S A C :=
  ⟨Nat.le_trans h.size k.size, fun i hi hl => (k.same i hi (Nat.lt_of_lt_of_le hl h.size)).trans (h.same i hi hl)⟩
theorem KeptS.of {S : Nat → Prop} {A B : World} (h : A.grownBy B none) : KeptS S A B := ⟨h.size, fun k _ hl => h.block k hl (by simp)⟩
theorem KeptS.put {S : Nat → Prop} (W : World) (l : Nat) (o' : Obj) (h : ¬ S l) : KeptS S W (W.putObj l o') :=
  ⟨(grownBy_putObj' W l o').size, fun k hk hl => World.putObj_heap_other (fun e => h (by first | exact e ▸ hk | exact e.symm ▸ hk))⟩
theorem KeptS.ch {S : Nat → Prop} {A B : World} {T : Nat → Prop} (h : Ch T A B) (hd : ∀ k, S k → ¬ T k) : KeptS S A B := ⟨h.size, fun k hk hl => h.block k hl (hd k hk)⟩
theorem Chk.kept {w w' : World} {B b1 b2 : Nat} {z : Int} {ao : Option Addr} {n co : Nat} {l : List UInt8} (h : Chk w B b1 b2 z ao n co l) (hk : KeptS (Chk.S b1 b2 ao co) w w') : Chk w' B b1 b2 z ao n co l :=
  ⟨(hk.same b1 (.inl rfl) h.size.lt).trans h.size, (hk.same b2 (.inr (.inl rfl)) h.box.lt).trans h.box, Own.kept' h.own fun h0 g e hl => hk.same g (.inr (.inr ⟨h0, e⟩)) hl, h.above⟩
theorem Chk.lt {w : World} {B b1 b2 : Nat} {z : Int} {ao : Option Addr} {n co : Nat} {l : List UInt8} (h : Chk w B b1 b2 z ao n co l) {k : Nat} (hk : Chk.S b1 b2 ao co k) : B ≤ k ∧ k < w.heap.size := by
  rcases hk with rfl | rfl | hk
  · exact ⟨h.above.1, h.size.lt⟩
  · exact ⟨h.above.2, h.box.lt⟩
  · exact Own.inn h.own hk

/-- what a round is told -/
structure ChOk (all : List (Nat × List UInt8)) (pre : List Pce) (x : Pce) (W0 W1 : World) : Prop where
  at_ : ∃ r, pre.map Pce.pr ++ x.pr :: r = all
  own : BOwn W1 W0.heap.size x.sl.a x.sl.n x.sl.c x.b
theorem ChOk.put {all : List (Nat × List UInt8)} {pre : List Pce} {x : Pce} {W0 W : World} (h : ChOk all pre x W0 W) (l : Nat) {o : Obj} (o' : Obj) (hl : W.heap[l]? = some o) (ho : o.isCells = false) : ChOk all pre x W0 (W.putObj l o') := by
  refine ⟨h.at_, ?_⟩
  rcases h.own.2 with h0 | ⟨g, cur, ha, hb, hh, rest⟩
  · exact ⟨h.own.1, .inl h0⟩
  · refine ⟨h.own.1, .inr ⟨g, cur, ha, hb, ?_, rest⟩⟩
    have hne : l ≠ g := fun e => by subst e; rw [hl] at hh; injection hh with hh; subst hh; cases ho
    first | exact (World.putObj_heap_other hne).trans hh | exact (World.putObj_heap_other hne.symm).trans hh

end Go.Proofs.Ytfboddnpkaiifaa
/- Plain regions in a round of the wide fence; what cells that lay kept; lists collected in a round. -/
namespace Go.Proofs.Ytfboddnpkaiifaa
open Go.RowKit Go.Shelf

theorem wpListIn_of {l n : Nat} {P : Program} {ops : Array Oper} {Q : Exit → Act → World → Prop} : ∀ (L : List Oper) (a : Act) (w : World), (∀ o ∈ L, ∀ c, o.op ≠ .defer c) →
    wpList P ops (QN fun a w => Q .normal a w) L a w → wpListIn (Fence.wide.inRound l) n P ops Q L a w
  | [], a, w, _, h => h.2
  | o :: rest, a, w, hd, h => by
    unfold wpList at h
    unfold wpListIn
    have hr : ∀ o ∈ rest, ∀ c, o.op ≠ .defer c := fun x hx => hd x (List.mem_cons_of_mem _ hx)
    by_cases hw : Region.wanted o (yielded ops a.tmps) = true
    · rw [if_pos hw] at h ⊢
      rcases h with h | ⟨_, h⟩
      · refine ⟨fun _ _ => trivial, ?_⟩
        rw [Oper.semAt_eq _ _ _ (hd o (List.mem_cons_self ..))]
        unfold Oper.wp at h
        generalize (execOp a.eval o).run P w = r at h ⊢
        cases r with
        | ok x w' =>
          cases x <;> simp only [Oper.upon, Oper.uponIn] at h ⊢
          case value u => exact wpListIn_of rest _ _ hr h
          case skip => exact wpListIn_of rest _ _ hr h
          case defer d => exact wpListIn_of rest _ _ hr h
          case enter f args =>
            refine ⟨fun e => (by cases e), calls_wide (h.mono fun e w'' he => ?_)⟩
            cases e with
            | returned u => exact wpListIn_of rest _ _ hr he
            | panicked c => cases he.1
            | outgrown => exact absurd he (not_lets _)
          case row row args => exact ⟨fun e => (by cases e), rows_wide (h.mono fun u w'' he => wpListIn_of rest _ _ hr he)⟩
        | halt x w' =>
          cases x <;> simp only [Oper.upon, Oper.uponIn] at h ⊢
          case panic u => cases h.1
      · exact absurd h (not_lets _)
    · rw [if_neg hw] at h ⊢
      exact ⟨fun _ _ => trivial, wpListIn_of rest _ _ hr h⟩
/-- a plain region, by the plain walk -/
theorem wpIn_regionP {l n : Nat} {P : Program} {L : List Oper} {Q : Exit → Act → World → Prop} {id : Nat} {a : Act} {w : World} (hnd : noDefer L.toArray = true)
    (h : wpList P L.toArray (QN fun a w => Q .normal a w) L a w) : (Code.region id L.toArray false).wpIn (Fence.wide.inRound l) n P Q a w := by
  refine wpIn_region_lit (wpListIn_of L a w (fun o ho c e => ?_) h)
  obtain ⟨i, hi, rfl⟩ := List.getElem_of_mem ho
  exact noDefer_at hnd (i := i) (by simp [hi]) c e

theorem Row.keptC {A B : World} {g : Nat} {t : TypeId} {cs : Array Value} (h : Row A g t cs) (hk : KeptC A B) : Row B g t cs := hk.same g _ h rfl
theorem Own.keptC {A B : World} {base : Nat} {e : TypeId} {size : Nat} {a : Option Addr} {n c : Nat} {xs : List Value} (h : Own A base e size a n c xs) (hk : KeptC A B) : Own B base e size a n c xs := by
  refine ⟨h.1, ?_⟩
  rcases h.2 with h0 | ⟨g, cur, ha, hb, hh, rest⟩
  · exact .inl h0
  · exact .inr ⟨g, cur, ha, hb, hk.same g _ hh rfl, rest⟩
theorem LIs.keptC {A B : World} {base : Nat} {a : Option Addr} {n c : Nat} {bs : List (List UInt8)} {L : List Sl} (h : LIs A base a n c bs L) (hk : KeptC A B) : LIs B base a n c bs L :=
  ⟨Own.keptC h.outer hk, h.len, fun i h1 h2 => Own.keptC (h.inner i h1 h2) hk, h.apart⟩
theorem LIs.nc {A B : World} {row : Option Nat} {b0 : Nat} {base : Nat} {a : Option Addr} {n c : Nat} {bs : List (List UInt8)} {L : List Sl} (h : LIs A base a n c bs L) (hg : A.grownBy B row) (hr : ∀ r, row = some r → b0 ≤ r ∧ ∃ o : Obj, A.heap[r]? = some o ∧ o.isCells = false) : LIs B base a n c bs L := by
  have hk : KeptC A B := ⟨hg.size, fun k o hko hoc => (hg.block k (Array.getElem?_eq_some_iff.1 hko).1 (fun e => by
    obtain ⟨_, o', ho', hc'⟩ := hr k e.symm
    rw [hko] at ho'
    injection ho' with ho'
    subst ho'
    rw [hoc] at hc'
    cases hc')).trans hko⟩
  exact h.keptC hk

/-- one list more, made since the others -/
theorem LIs.pushK {w w1 w2 : World} {base : Nat} {a : Option Addr} {n c : Nat} {bs : List (List UInt8)} {L : List Sl} (h : LIs w base a n c bs L) (hb : base ≤ w.heap.size) (hg : KeptC w w1)
    {a' : Option Addr} {n' c' : Nat} {b : List UInt8} (ho : BOwn w1 w.heap.size a' n' c' b) {a2 : Option Addr} {c2 : Nat}
    (hs : Own w2 base 22 1 a2 (n + 1) c2 (L.map Sl.val ++ [.slice a' n' c'])) (hgr : GrewP w1 w2 a c a2 c2) : LIs w2 base a2 (n + 1) c2 (bs ++ [b]) (L ++ [⟨a', n', c'⟩]) := by
  obtain ⟨h1, h2, h3, h4⟩ := h
  have h1' : SOwn w1 base a n c L := Own.keptC h1 hg
  have hin : ∀ i (h : i < L.length) (h' : i < bs.length), BOwn w2 base (L[i]).a (L[i]).n (L[i]).c bs[i] := fun i h h' => Own.grewOther (Own.keptC (h3 i h h') hg) h1' hgr (by decide)
  have hnew : BOwn w2 base a' n' c' b := Own.grewOther (ho.mono hb) h1' hgr (by decide)
  refine ⟨?_, by simp [h2], ?_, ?_⟩
  · unfold SOwn; rw [List.map_append]; exact hs
  · intro i hi hi'
    by_cases e : i < L.length
    · have e' : i < bs.length := by omega
      rw [List.getElem_append_left e, List.getElem_append_left e']
      exact hin i e e'
    · simp only [List.length_append, List.length_singleton] at hi
      obtain rfl : i = L.length := by omega
      have e2 : (L ++ [⟨a', n', c'⟩])[L.length] = (⟨a', n', c'⟩ : Sl) := by simp
      have e3 : (bs ++ [b])[L.length] = b := by simp [h2]
      rw [e2, e3]
      exact hnew
  · have old : ∀ i (hi : i < L.length) g, (L[i]).blk = some g → g < w.heap.size := by
      intro i hi g hgb
      have hbo := h3 i hi (by omega)
      obtain ⟨hc, ha⟩ := hbo.blk hgb
      obtain ⟨g', ha', _, hlt⟩ := Own.block hbo hc
      rw [ha] at ha'
      obtain rfl : g = g' := by simpa using ha'
      exact hlt
    have new : ∀ g, (⟨a', n', c'⟩ : Sl).blk = some g → w.heap.size ≤ g := by
      intro g hgb
      have hbo : BOwn w1 w.heap.size (⟨a', n', c'⟩ : Sl).a (⟨a', n', c'⟩ : Sl).n (⟨a', n', c'⟩ : Sl).c b := ho
      obtain ⟨hc, ha⟩ := hbo.blk hgb
      obtain ⟨g', ha', hlt, _⟩ := Own.block hbo hc
      rw [ha] at ha'
      obtain rfl : g = g' := by simpa using ha'
      exact hlt
    intro i j hi hj hij g hgi hgj
    simp only [List.length_append, List.length_singleton] at hi hj
    by_cases ei : i < L.length
    · by_cases ej : j < L.length
      · rw [List.getElem_append_left ei] at hgi
        rw [List.getElem_append_left ej] at hgj
        exact h4 i j ei ej hij g hgi hgj
      · obtain rfl : j = L.length := by omega
        rw [List.getElem_append_left ei] at hgi
        have e2 : (L ++ [⟨a', n', c'⟩])[L.length]'(by simp) = (⟨a', n', c'⟩ : Sl) := by simp
        rw [e2] at hgj
        have := old i ei g hgi
        have := new g hgj
        omega
    · obtain rfl : i = L.length := by omega
      have ej : j < L.length := by omega
      rw [List.getElem_append_left ej] at hgj
      have e2 : (L ++ [⟨a', n', c'⟩])[L.length]'(by simp) = (⟨a', n', c'⟩ : Sl) := by simp
      rw [e2] at hgi
      have := old j ej g hgj
      have := new g hgi
      omega
theorem LIs.lies {w : World} {base : Nat} {a : Option Addr} {n c : Nat} {bs : List (List UInt8)} {L : List Sl} (h : LIs w base a n c bs L) : LLies w a L bs := by
  refine ⟨?_, h.len, fun i h1 h2 => ⟨(h.inner i h1 h2).lies, (h.inner i h1 h2).len.symm⟩⟩
  intro k hk
  obtain ⟨g, e, _, _, hc, _⟩ := Own.cell h.outer k hk
  exact ⟨g, 0, e, by rw [Nat.zero_add, hc]⟩

theorem LIs.chS {w w' : World} {base : Nat} {a : Option Addr} {n c : Nat} {bs : List (List UInt8)} {L : List Sl} {S : Nat → Prop} (h : LIs w base a n c bs L) (hc : Ch S w w') (ho : ∀ g, In a c g → ¬ S g) (hi : ∀ i (hi : i < L.length) g, In (L[i]).a (L[i]).c g → ¬ S g) : LIs w' base a n c bs L :=
  ⟨Own.ch h.outer hc (fun h0 g e => ho g ⟨h0, e⟩), h.len, fun i h1 h2 => Own.ch (h.inner i h1 h2) hc (fun h0 g e => hi i h1 g ⟨h0, e⟩), h.apart⟩

/-- the caller's law, its act behind the assignment told by what is assigned -/
theorem wpIn_rangeOkA {F : Fence} {n : Nat} {P : Program} {α : Type} {g : Operand} {ps : Array Tmp} {assign body : Code} {Q : Exit → Act → World → Prop} {a : Act} {w : World}
    (asg : Array Value → α → Array Value)
    (hro : F.round = none) (h1 : 1 ≤ n) {gf : Nat} {lb : Array Value} (hg : a.eval g = .func (.func gf) #[] lb) (hFg : F.fn gf) (eg : ∀ args w, (callFunc gf args).run P w = .ok (.enter gf args) w)
    {encs : α → Array Value} {Kp : World → World → Prop} {Ok : List α → α → World → World → Prop} {S Sp : List α → Prop} {w0 : World} (hseq : SeqOk F (n - 1) P gf lb encs Kp Ok S Sp w0)
    (hKt : ∀ {A B C : World}, Kp A B → Kp B C → Kp A C) (hKb : ∀ (W : World) (l : Nat) (o o' : Obj), w.heap.size ≤ l → W.heap[l]? = some o → o.isCells = false → o.isWalk = false → Kp W (W.putObj l o'))
    (hOk : ∀ pre x (W0 W : World) (l : Nat) (o o' : Obj), Ok pre x W0 W → W.heap[l]? = some o → o.isCells = false → Ok pre x W0 (W.putObj l o'))
    (hb0 : Below w0.heap.size w0 w) (hps : ∀ x, (encs x).size = ps.size)
    (I : List α → World → Prop) (Ix : Code → List α → World → Prop) (hI : OwnFrom w.heap.size I) (hIx : ∀ c, OwnFrom w.heap.size (Ix c)) (h0 : I [] w)
    (hassign : ∀ (l : Nat) (x : α) (W : World) (K : Act → World → Prop), K { tmps := asg a.tmps x, defers := [] } W →
      assign.wpIn (F.inRound l) (n - 1 - 1) P (Exit.then K (fun _ _ _ => False)) { tmps := (ps.zip (encs x)).foldl (fun t (p, v) => t.setIfInBounds p v) a.tmps, defers := [] } W)
    (hbody : ∀ (l : Nat) (pre : List α) (x : α) (W0 W : World), I pre W0 → I pre W → KeptC W0 W → Ok pre x W0 W → body.wpIn (F.inRound l) (n - 1 - 1) P (ownPostG w.heap.size Kp I Ix (pre ++ [x]) W) { tmps := asg a.tmps x, defers := [] } W)
    (hdone : ∀ (D : Nat) (xs : List α) (W : World), w.heap.size ≤ D → S xs → I xs W → W.heap[D]? = some (.deferred (some [])) → Q .normal { a with defers := { target := .collected D, args := #[] } :: a.defers } W)
    (hstop : ∀ (D : Nat) (c : Code) (pre : List α) (W : World), w.heap.size ≤ D → Sp pre → Ix c pre W → W.heap[D]? = some (.deferred (some [])) → c.wpIn F n P Q { a with defers := { target := .collected D, args := #[] } :: a.defers } W) :
    (Code.rangeFunc g ps assign body).wpIn F n P Q a w :=
  wpIn_rangeOk hro h1 hg hFg eg hseq hKt hKb hOk hb0 hps I Ix hI hIx h0 _ hassign hbody hdone hstop

theorem chs_len (Z : Nat) : ∀ (N p : Nat) (l : List UInt8), l.length ≤ N → (chs Z p l).length ≤ l.length := by
  intro N
  induction N with
  | zero => intro p l h; obtain rfl : l = [] := List.eq_nil_of_length_eq_zero (by omega); rw [chs_nil]; exact Nat.le_refl _
  | succ N ih =>
    intro p l h
    by_cases h0 : l = []
    · subst h0; rw [chs_nil]; exact Nat.le_refl _
    · have hp := List.length_pos_iff.2 h0
      rw [chs_cons h0, List.length_cons]
      have := ih (p + min (Z + 1) l.length) (l.drop (Z + 1)) (by rw [List.length_drop]; omega)
      rw [List.length_drop] at this
      omega
theorem flt_pce (xs : List Pce) : (xs.map Pce.b).flatten = flt (xs.map Pce.pr) := by
  unfold flt
  rw [List.map_map]
  rfl

end Go.Proofs.Ytfboddnpkaiifaa
/- cut.Segments and the function that it gives. -/
namespace Go.Proofs.Ytfboddnpkaiifaa
open Go.RowKit Go.Shelf
attribute [local go_sem] Oper.semAt_some

/-- the segments that are told, with their numbers -/
def sgs (s : Sh) (l : List UInt8) : List (Nat × List UInt8) := if fits s ∧ (l.length : Int) = s.size then (List.range s.segs.toNat).map fun (j : Nat) => (j, sgR s l (j : Int)) else []

/-- what the function that is given back holds -/
structure Sgk (w : World) (B b1 b2 : Nat) (s : Sh) (ao : Option Addr) (n co : Nat) (l : List UInt8) : Prop where
  shape : Row w b1 47 #[.int .i64 s.k, .int .i64 s.n, .int .i64 s.seg, .int .i64 s.size, .int .i64 s.segs, .int .i64 s.tail, .int .i64 s.block, .int .i64 s.last]
  box : Row w b2 22 #[.slice ao n co]
  own : BOwn w B ao n co l
  above : B ≤ b1 ∧ B ≤ b2
theorem Sgk.kept {w w' : World} {B b1 b2 : Nat} {s : Sh} {ao : Option Addr} {n co : Nat} {l : List UInt8} (h : Sgk w B b1 b2 s ao n co l) (hk : KeptS (Chk.S b1 b2 ao co) w w') : Sgk w' B b1 b2 s ao n co l :=
  ⟨(hk.same b1 (.inl rfl) h.shape.lt).trans h.shape, (hk.same b2 (.inr (.inl rfl)) h.box.lt).trans h.box, Own.kept' h.own fun h0 g e hl => hk.same g (.inr (.inr ⟨h0, e⟩)) hl, h.above⟩
theorem Sgk.lt {w : World} {B b1 b2 : Nat} {s : Sh} {ao : Option Addr} {n co : Nat} {l : List UInt8} (h : Sgk w B b1 b2 s ao n co l) {k : Nat} (hk : Chk.S b1 b2 ao co k) : B ≤ k ∧ k < w.heap.size := by
  rcases hk with rfl | rfl | hk
  · exact ⟨h.above.1, h.shape.lt⟩
  · exact ⟨h.above.2, h.box.lt⟩
  · exact Own.inn h.own hk

theorem size_shape' : (Try.prog.info? 47).map (·.size) = some 8 := by kernel_rfl

set_option maxRecDepth 100000 in
set_option maxHeartbeats 4000000 in
theorem segments_n (s : Sh) (a : Option Addr) (c n : Nat) (l : List UInt8) (w : World) (ha : BLies w a l) (hl : l.length = n) (hn : n ≤ 4000000100) :
    Calls Try.prog 48 #[s.val, .slice a n c] w fun e w' => ∃ b1 b2 ao co, e = .returned (.func (.func 59) #[] #[.pointer (some ⟨b1, 0, none⟩), .pointer (some ⟨b2, 0, none⟩)]) ∧
      Sgk w' w.heap.size b1 b2 s ao n co l ∧ w.grownBy w' none := by
  obtain ⟨il, hi, hz, hsz, _⟩ := info_parts (show (Try.prog.info? 22).map (fun i => (i.zero, i.size, i.bytes)) = some (some (.slice none 0 0), 1, 24) by kernel_rfl)
  have HA := Lib.hid ha
  have HL := Lib.hid hl
  clear ha hl
  unfold Sh.val
  go_enter Try.func48, Try.ntmps48
  go_upto_region 1 with (refine wpList_boxed rfl rfl #[.int .i64 s.k, .int .i64 s.n, .int .i64 s.seg, .int .i64 s.size, .int .i64 s.segs, .int .i64 s.tail, .int .i64 s.block, .int .i64 s.last] rfl ?_; intro W1 hs1 hg1 hr1; have HG1 := Lib.hid hg1; have HR1 := Lib.hid hr1; clear hs1 hg1 hr1)
  go_wp2_with (first | (go_at_call 52; refine (sclone_n a c n l _ (HA.out.grown HG1.out) HL.out hn).mono ?_; rintro e W2 ⟨ao, co, rfl, ho, hg⟩; have HO := Lib.hid ho; have HG2 := Lib.hid hg; clear ho hg) | (refine wpList_fresh1 rfl rfl rfl rfl rfl hi hz hsz rfl (.slice ao n co) rfl rfl rfl ?_; intro W3 hs3 hg3 hr3; have HG3 := Lib.hid hg3; have HR3 := Lib.hid hr3; clear hs3 hg3 hr3))
  go_ret
  have h1 := HR1.out
  have h2 := HO.out
  have h3 := HR3.out
  have g1 := HG1.out
  have g2 := HG2.out
  have g3 := HG3.out
  exact ⟨_, _, ao, co, rfl, ⟨Row.grown (Row.grown h1 g2) g3, h3, BOwn.grown (BOwn.mono h2 g1.size) g3, Nat.le_refl _, Nat.le_trans g1.size g2.size⟩, grownBy_trans (grownBy_trans g1 g2) g3⟩

/-- a struct's load in a region that is walked op by op -/
theorem wpListIn_valW {n : Nat} {P : Program} {ops : Array Oper} {Q : Exit → Act → World → Prop} {o : Oper} {rest : List Oper} {a : Act} {w w1 : World} {v : Value}
    (hw : Region.wanted o (yielded ops a.tmps) = true) (hd : ∀ c, o.op ≠ .defer c) (hr : (execOp a.eval o).run P w = .ok (.value v) w1) (h : wpListIn Fence.wide n P ops Q rest (a.put o.dst v) w1) : wpListIn Fence.wide n P ops Q (o :: rest) a w := by
  unfold wpListIn
  rw [if_pos hw]
  refine ⟨fun _ _ => trivial, ?_⟩
  rw [Oper.semAt_eq _ _ _ hd, hr]
  simp only [Oper.uponIn]
  exact h
theorem sgs_at {s : Sh} {l : List UInt8} {all : List (Nat × List UInt8)} {S j : Nat} {pre : List Pce} (hall : all = (List.range S).map fun (j : Nat) => (j, sgR s l (j : Int))) (hp : pre.map Pce.pr = all.take j) (hj : j < S) {b : List UInt8} (hb : sgR s l (j : Int) = b) :
    ∀ {sl : Sl}, ∃ r, pre.map Pce.pr ++ (⟨j, sl, b⟩ : Pce).pr :: r = all := fun {sl} => by
  have hjl : j < all.length := by rw [hall, List.length_map, List.length_range]; exact hj
  refine ⟨all.drop (j + 1), ?_⟩
  have e : all[j] = (j, b) := by subst hall; simp [hb]
  rw [hp]
  show all.take j ++ (j, b) :: _ = all
  rw [← e, ← List.drop_eq_getElem_cons hjl, List.take_append_drop]

set_option maxRecDepth 100000 in
set_option maxHeartbeats 1000000 in
theorem segs1_in (m : Nat) (B b1 b2 : Nat) (s : Sh) (hs : s.Wf) (ao : Option Addr) (n co : Nat) (l : List UInt8) (w : World) (hc : Sgk w B b1 b2 s ao n co l) :
    SeqOk Fence.wide m Try.prog 59 #[.pointer (some ⟨b1, 0, none⟩), .pointer (some ⟨b2, 0, none⟩)] Pce.vals (KeptS (Chk.S b1 b2 ao co)) (ChOk (sgs s l))
      (fun xs => xs.map Pce.pr = sgs s l) (fun pre => ∃ r, pre.map Pce.pr ++ r = sgs s l) w := by
  intro lp J Jx W hW hJ hJx hY h0
  have HC : Hid (Sgk W B b1 b2 s ao n co l) := Lib.hid (hc.kept ⟨hW.size, fun k hk hl => hW.block k hl⟩)
  have HY := Lib.hid hY
  have HJ := Lib.hid hJ
  have HJ0 := Lib.hid h0
  have HLN := Lib.hid (BOwn.len hc.own)
  have hf := fun w => fits_n s hs w
  have hsz := fun j w => segsize_n s hs j w
  unfold Sh.val at hf hsz
  have HF := Lib.hid hf
  have HZ := Lib.hid hsz
  clear hW hc hY hJ hJx h0 hf hsz
  refine callsIn_of_wp Try.func59 rfl trivial ?_ rfl
  simp only [Try.ntmps59, List.size_toArray, List.length_cons, List.length_nil, Nat.reduceAdd, Nat.reduceSub, Array.replicate_succ, Array.replicate_zero, List.push_toArray, List.append_toArray, List.nil_append, List.cons_append]
  by_cases hfit : fits s
  · by_cases hsize : (n : Int) = s.size
    · have hbn : ((n : Int) != s.size) = false := by rw [bne_eq_false_iff_eq]; exact hsize
      have hfd : decide (fits s) = true := decide_eq_true hfit
      rw [hfd] at HF
      obtain ⟨S, hS⟩ : ∃ S : Nat, S = s.segs.toNat := ⟨_, rfl⟩
      have hall : sgs s l = (List.range S).map fun (j : Nat) => (j, sgR s l (j : Int)) := by unfold sgs; rw [if_pos ⟨hfit, by rw [HLN.out]; exact hsize⟩, hS]
      have hsi : s.segs = (S : Int) ∧ S ≤ 512 := by
        obtain ⟨k, n', g, z, F⟩ := fits_fit hfit
        have e3 : s.segs = (segsN g z : Nat) := by rw [F.eq]; rfl
        have := F.segs
        omega
      obtain ⟨hsi, hS512⟩ := hsi
      have hnb : n ≤ 16777216 := sg_size hfit hsize
      have HFI := Lib.hid hfit
      have HSI := Lib.hid hsize
      have HAL := Lib.hid hall
      have HSS := Lib.hid hsi
      obtain ⟨all, halle⟩ : ∃ all, all = sgs s l := ⟨_, rfl⟩
      rw [← halle] at HY HAL ⊢
      clear hfit hsize hall hS hfd halle hsi
      have c1 := Row.cell HC.out.box 0
      have c3 := Row.cell HC.out.shape 3
      simp at c1 c3
      have HB1 := Lib.hid HC.out.shape
      gi_step
      gi_step
      gi_step
      refine wpIn_wide.2 (wp_region_lit ?_)
      go_wp2_with (first
        | (refine wpList_load_row rfl 47 _ rfl b1 rfl 47 _ (0, 0) _ HB1.out Try.underlying47 rfl size_shape' ?_)
        | (go_at_call 36; refine (HF.out W).mono ?_; rintro e W1 ⟨rfl, hg⟩; have HG := Lib.hid hg; have c11 := (World.cell?_of_block (hg.block _ (World.block_lt_of_cell? W ⟨b2, 0, none⟩ c1) (by simp))).trans c1; have c13 := (World.cell?_of_block (hg.block _ (World.block_lt_of_cell? W ⟨b1, 3, none⟩ c3) (by simp))).trans c3; clear hg c1 c3))
      have HC1 := Lib.hid (HC.out.kept (KeptS.of HG.out))
      have HJ1 := Lib.hid (HJ.out [] W W1 none HJ0.out HG.out (fun r e => by cases e))
      clear HJ0 HC HB1 HG c11 c13 hbn
      have c4 := Row.cell HC1.out.shape 4
      simp at c4
      rw [HSS.out] at c4
      gi_wp2
      clear c4
      gi_loopw [19] (fun vn wr => ∃ (j : Nat) (pre : List Pce), j ≤ S ∧ vn = .int .i64 (j : Int) ∧ J pre wr ∧ Sgk wr B b1 b2 s ao n co l ∧ Hid (pre.map Pce.pr = all.take j))
        (fun vn _ => S - (intOf vn).toNat)
      case atStart => exact ⟨0, [], Nat.zero_le _, rfl, HJ1.out, HC1.out, Lib.hid (by simp)⟩
      case round =>
        obtain ⟨j, pre, hj, rfl, hjj, hc, HP⟩ := hrel
        have HJ2 := Lib.hid hjj
        have HC := Lib.hid hc
        clear hjj hc HJ1 HC1
        by_cases hlt : j < S
        · have hd : decide ((j : Int) < (S : Int)) = true := decide_eq_true (by omega)
          have hze : szE s (j : Int) = 0 := by unfold szE; rw [if_pos HFI.out, if_pos ⟨by omega, by rw [HSS.out]; omega⟩]
          obtain ⟨r, v, _, hv, hr, hrv⟩ := sg_in HFI.out hze HSI.out
          have hseg : sgR s l (j : Int) = (l.drop r).take v := by
            unfold sgR
            rw [if_pos (by unfold sgE; rw [if_pos HFI.out, if_pos (by rw [HLN.out]; exact HSI.out)]; exact hze), hr, hv]
            rfl
          have hszj := fun u => HZ.out (j : Int) u
          rw [hv, hze] at hszj
          obtain ⟨G, hG⟩ : ∃ G : Int, G = s.seg := ⟨_, rfl⟩
          have hwr : IntKind.i64.wrap ((j : Int) * G) = (r : Int) := by rw [hG, hr]; exact IntWalk.i64_in _ (by omega)
          have hrow := HC.out.shape
          have c1 := Row.cell HC.out.box 0
          have c2 := Row.cell HC.out.shape 2
          simp at c1 c2
          rw [← hG] at c2
          have HZJ := Lib.hid hszj
          have HROW := Lib.hid hrow
          have HSG := Lib.hid hseg
          have hat : all.take (j + 1) = all.take j ++ [(j, sgR s l (j : Int))] := by
            have hjl : j < all.length := by rw [HAL.out, List.length_map, List.length_range]; exact hlt
            rw [List.take_succ_eq_append_getElem hjl]
            congr 2
            have := HAL.out
            subst this
            simp
          have HAT := Lib.hid hat
          clear hze hv hr hG hseg hszj hrow hat
          gi_wp2_with (first
            | (refine wpListIn_valW rfl (fun c h => by cases h) (run_load_op wr _ 47 (.tmp 1) rfl b1 rfl 47 #[.int .i64 s.k, .int .i64 s.n, .int .i64 s.seg, .int .i64 s.size, .int .i64 s.segs, .int .i64 s.tail, .int .i64 s.block, .int .i64 s.last] HROW.out Try.underlying47 rfl size_shape') ?_)
            | (refine ⟨trivial, fun h => (by cases h), ?_⟩; gi_at_call 40; refine (callsIn_wide.2 (HZJ.out wr)).mono ?_; rintro e w1 ⟨rfl, hg⟩; have HG1 := Lib.hid hg; have c11 := (World.cell?_of_block (hg.block _ (World.block_lt_of_cell? wr ⟨b2, 0, none⟩ c1) (by simp))).trans c1; have c12 := (World.cell?_of_block (hg.block _ (World.block_lt_of_cell? wr ⟨b1, 2, none⟩ c2) (by simp))).trans c2; have HPC := Lib.hid (piece_n ao co n r v l w1 (BOwn.lies (HC.out.own.grown hg)) HLN.out (by omega) hrv HC.out.own.cap.1); clear hg c1 c2)
            | (refine ⟨trivial, fun h => (by cases h), ?_⟩; gi_at_call 53; refine (callsIn_wide.2 HPC.out).mono ?_; rintro e w2 ⟨a2, cc2, rfl, ho, hg⟩; have HG2 := Lib.hid (grownBy_trans HG1.out hg); have HY1 := Lib.hid (HY.out pre ⟨j, ⟨a2, v, cc2⟩, (l.drop r).take v⟩ wr w2 HJ2.out (HJ.out pre wr w2 none HJ2.out HG2.out (fun r e => by cases e)) (KeptC.of HG2.out) ⟨sgs_at HAL.out HP.out hlt HSG.out, ho.mono HG1.out.size⟩); clear ho hg; obtain ⟨fn, tmps, assign, body, hy, hR⟩ := HY1.out; have HR := Lib.hid hR; clear hR; dsimp only [Pce.vals, Sl.val] at hy))
          refine ⟨fun h => (by cases h), HR.out.mono ?_⟩
          rintro e W3 (⟨rfl, hJ3, hk3⟩ | ⟨rfl, hJx3⟩)
          · have HJ3 := Lib.hid hJ3
            have hc3 := (HC.out.kept (KeptS.of HG2.out)).kept hk3
            have HC3 := Lib.hid hc3
            clear hJ3 hk3 hc3
            gi_wp2
            refine ⟨⟨j + 1, _, by omega, by simp, HJ3.out, HC3.out, Lib.hid (by rw [List.map_append, HP.out, HAT.out, HSG.out]; rfl)⟩, ?_⟩
            simp only [intOf]
            omega
          · have HJ3 := Lib.hid hJx3
            clear hJx3
            gi_wp2
            refine bodyPost_ret (results_none rfl _ _ _) rfl ?_
            exact ⟨⟨_, rfl⟩, .inr ⟨_, ⟨all.drop (j + 1), by rw [List.map_append, HP.out]; show all.take j ++ [(j, (l.drop r).take v)] ++ _ = _; rw [← HSG.out, ← HAT.out, List.take_append_drop]⟩, HJ3.out⟩⟩
        · obtain rfl : j = S := by omega
          have hd : decide ((j : Int) < (j : Int)) = false := decide_eq_false (by omega)
          have hpe : pre.map Pce.pr = all := by
            rw [HP.out, List.take_of_length_le (by rw [HAL.out, List.length_map, List.length_range]; exact Nat.le_refl _)]
          have HPE := Lib.hid hpe
          clear hpe
          gi_wp2
          go_end0
          exact ⟨⟨_, rfl⟩, .inl ⟨pre, HPE.out, HJ2.out⟩⟩
    · have hbn : ((n : Int) != s.size) = true := by rw [bne_iff_ne]; exact hsize
      have hfd : decide (fits s) = true := decide_eq_true hfit
      rw [hfd] at HF
      have hall : sgs s l = [] := by unfold sgs; rw [if_neg (fun h => hsize (by rw [← h.2, HLN.out]))]
      have HAL := Lib.hid hall
      clear hfd hfit hall hsize
      have c1 := Row.cell HC.out.box 0
      have c3 := Row.cell HC.out.shape 3
      simp at c1 c3
      have HB1 := Lib.hid HC.out.shape
      gi_step
      gi_step
      gi_step
      refine wpIn_wide.2 (wp_region_lit ?_)
      go_wp2_with (first
        | (refine wpList_load_row rfl 47 _ rfl b1 rfl 47 _ (0, 0) _ HB1.out Try.underlying47 rfl size_shape' ?_)
        | (go_at_call 36; refine (HF.out W).mono ?_; rintro e W1 ⟨rfl, hg⟩; have HG := Lib.hid hg; have c11 := (World.cell?_of_block (hg.block _ (World.block_lt_of_cell? W ⟨b2, 0, none⟩ c1) (by simp))).trans c1; have c13 := (World.cell?_of_block (hg.block _ (World.block_lt_of_cell? W ⟨b1, 3, none⟩ c3) (by simp))).trans c3; clear hg c1 c3))
      have HJ1 := Lib.hid (HJ.out [] W W1 none HJ0.out HG.out (fun r e => by cases e))
      gi_wp2
      refine bodyPost_ret (results_none rfl _ _ _) rfl ?_
      exact ⟨⟨_, rfl⟩, .inl ⟨[], by rw [HAL.out]; rfl, HJ1.out⟩⟩
  · have hfd : decide (fits s) = false := decide_eq_false hfit
    rw [hfd] at HF
    have hall : sgs s l = [] := by unfold sgs; rw [if_neg (fun h => hfit h.1)]
    have HAL := Lib.hid hall
    clear hfd hfit hall
    have HB1 := Lib.hid HC.out.shape
    gi_step
    gi_step
    gi_step
    refine wpIn_wide.2 (wp_region_lit ?_)
    go_wp2_with (first
      | (refine wpList_load_row rfl 47 _ rfl b1 rfl 47 _ (0, 0) _ HB1.out Try.underlying47 rfl size_shape' ?_)
      | (go_at_call 36; refine (HF.out W).mono ?_; rintro e W1 ⟨rfl, hg⟩; have HG := Lib.hid hg; clear hg))
    have HJ1 := Lib.hid (HJ.out [] W W1 none HJ0.out HG.out (fun r e => by cases e))
    gi_wp2
    refine bodyPost_ret (results_none rfl _ _ _) rfl ?_
    exact ⟨⟨_, rfl⟩, .inl ⟨[], by rw [HAL.out]; rfl, HJ1.out⟩⟩
end Go.Proofs.Ytfboddnpkaiifaa
/- Segments and their blocks put together again. No walk. -/
namespace Go.Proofs.Ytfboddnpkaiifaa
open Go.RowKit

theorem flat_chunks {α : Type} (F : List α) (q : Nat) : ∀ k, ((List.range k).map fun i => (F.drop (i * q)).take q).flatten = F.take (k * q)
  | 0 => by simp
  | k + 1 => by
    rw [List.range_succ, List.map_append, List.flatten_append, flat_chunks F q k, Nat.succ_mul, List.take_add]
    simp

/-- what there is to know of a segment -/
structure SegN (s : Sh) (l : List UInt8) (S K G : Nat) : Prop where
  segs : s.segs = (S : Int)
  k : s.k = (K : Int)
  seg : s.seg = (G : Int)
  S1 : S ≤ 512
  K1 : 1 ≤ K
  K2 : K ≤ 255
  all : l.length ≤ S * G
  bytes : ∀ j, j < S → sgR s l (j : Int) = (l.drop (j * G)).take G
  one : ∀ j, j < S → ∃ v q : Nat, szE s (j : Int) = 0 ∧ szV s (j : Int) s.seg s.tail = (v : Int) ∧ szV s (j : Int) s.block s.last = (q : Int) ∧ (sgR s l (j : Int)).length = v ∧ 1 ≤ v ∧ v ≤ K * upN 65536 K ∧ q = upN v K ∧ v ≤ 65791
theorem seg_num {s : Sh} {l : List UInt8} (hf : fits s) (hl : (l.length : Int) = s.size) : ∃ S K G, SegN s l S K G := by
  obtain ⟨h0, h1⟩ := hf
  have hf : fits s := ⟨h0, h1⟩
  obtain ⟨⟨a1, a2, a3, a4, a5, a6, a7, hz⟩, hseg⟩ := agE_zero.1 h0
  unfold sized at hz
  unfold agS at h1
  rw [if_pos h0] at h1
  obtain ⟨K, hK⟩ : ∃ K, K = s.k.toNat := ⟨_, rfl⟩
  obtain ⟨G, hG⟩ : ∃ G, G = s.seg.toNat := ⟨_, rfl⟩
  obtain ⟨z, hzz⟩ : ∃ z, z = s.size.toNat := ⟨_, rfl⟩
  rw [← hK, ← hG, ← hzz] at h1
  rw [← hK, ← hG] at a6 a7
  rw [← hG, ← hzz] at hseg
  have hK1 : 1 ≤ K := by omega
  have hG1 : 1 ≤ G := by omega
  have hz1 : 1 ≤ z := by omega
  have e1 : s.k = (K : Int) := by omega
  have e2 : s.seg = (G : Int) := by omega
  have e3 : s.size = (z : Int) := by omega
  have e4 : s.segs = (segsN G z : Nat) := by rw [h1]; rfl
  have e5 : s.tail = (tailN G z : Nat) := by rw [h1]; rfl
  have e6 : s.block = (G / K : Nat) := by rw [h1]; rfl
  have e7 : s.last = (upN (tailN G z) K : Nat) := by rw [h1]; rfl
  have hlz : l.length = z := by omega
  have hd := Nat.div_add_mod G K
  rw [a6, Nat.add_zero] at hd
  have hd' : G / K * K = G := by rw [Nat.mul_comm]; exact hd
  have hu : upN G K = G / K := by rw [← hd', upN_self hK1, hd']
  have hGU : G ≤ K * upN 65536 K := by
    have h2 : K * (G / K) ≤ K * upN 65536 K := Nat.mul_le_mul_left _ a7
    rwa [hd] at h2
  have hlt := upN_lt (a := 65536) hK1
  have hG2 : G ≤ 65791 := by
    rw [Nat.mul_comm] at hlt
    omega
  have ht := tail_eq (g := G) (z := z) hG1 hz1
  have htp := tail_pos (g := G) (z := z) hG1 hz1
  have htl := tail_le (g := G) (z := z) hG1 hz1
  have hab := segs_above (g := G) (z := z) hG1
  have one : ∀ j, j < segsN G z → szE s (j : Int) = 0 := fun j hj => by
    unfold szE
    rw [if_pos hf, if_pos ⟨by omega, by rw [e4]; omega⟩]
  have vals : ∀ j, j < segsN G z → ∃ v q : Nat, szV s (j : Int) s.seg s.tail = (v : Int) ∧ szV s (j : Int) s.block s.last = (q : Int) ∧ 1 ≤ v ∧ v ≤ G ∧ q = upN v K ∧ ((l.drop (j * G)).take v = (l.drop (j * G)).take G) ∧ j * G + v ≤ z := fun j hj => by
    unfold szV
    rw [if_pos (one j hj), if_pos (one j hj)]
    by_cases hlast : (j : Int) = s.segs - 1
    · rw [if_pos hlast, if_pos hlast, e5, e7]
      have hjj : j = segsN G z - 1 := by rw [e4] at hlast; omega
      refine ⟨_, _, rfl, rfl, htp, htl, rfl, ?_, by rw [hjj]; omega⟩
      rw [hjj, List.take_of_length_le (by rw [List.length_drop, hlz]; omega), List.take_of_length_le (by rw [List.length_drop, hlz]; omega)]
    · rw [if_neg hlast, if_neg hlast, e2, e6]
      have h1 : (j + 1) * G ≤ (segsN G z - 1) * G := Nat.mul_le_mul_right _ (by rw [e4] at hlast; omega)
      rw [Nat.succ_mul] at h1
      exact ⟨_, _, rfl, rfl, hG1, Nat.le_refl _, hu.symm, rfl, by omega⟩
  have hsg : ∀ j, j < segsN G z → ∀ v : Nat, szV s (j : Int) s.seg s.tail = (v : Int) → sgR s l (j : Int) = (l.drop (j * G)).take v := fun j hj v hv => by
    unfold sgR
    rw [if_pos (by unfold sgE; rw [if_pos hf, if_pos hl]; exact one j hj), hv, e2]
    have : ((j : Int) * (G : Int)).toNat = j * G := by rw [← Int.natCast_mul]; exact Int.toNat_natCast _
    rw [this]
    rfl
  refine ⟨segsN G z, K, G, e4, e1, e2, hseg, hK1, by omega, by rw [hlz]; exact hab, fun j hj => ?_, fun j hj => ?_⟩
  · obtain ⟨v, q, hv, _, _, _, _, h5, _⟩ := vals j hj
    rw [hsg j hj v hv, h5]
  · obtain ⟨v, q, hv, hq, h1, h2, h3, _, h6⟩ := vals j hj
    refine ⟨v, q, one j hj, hv, hq, ?_, h1, by omega, h3, by omega⟩
    rw [hsg j hj v hv, List.length_take, List.length_drop, hlz]
    omega
/-- a file's segments are the file -/
theorem segs_flat {s : Sh} {l : List UInt8} (hf : fits s) (hl : (l.length : Int) = s.size) : ((sgs s l).map (·.2)).flatten = l := by
  obtain ⟨S, K, G, N⟩ := seg_num hf hl
  have hS : s.segs.toNat = S := by rw [N.segs]; rfl
  have e : (sgs s l).map (·.2) = (List.range S).map fun i => (l.drop (i * G)).take G := by
    unfold sgs
    rw [if_pos ⟨hf, hl⟩, List.map_map, hS]
    refine List.map_congr_left fun j hj => ?_
    rw [List.mem_range] at hj
    exact N.bytes j hj
  rw [e, flat_chunks, List.take_of_length_le N.all]

/-- a segment's blocks, put together, are the segment -/
theorem blk_back {x : List UInt8} {K v q : Nat} (hx : x.length = v) (hK1 : 1 ≤ K) (hK2 : K ≤ 255) (hv : 1 ≤ v) (hv2 : v ≤ K * upN 65536 K) (hq : q = upN v K) :
    bkE (K : Int) v = 0 ∧ (bkR x (K : Int)).length = K ∧ (∀ b ∈ bkR x (K : Int), b.length = q) ∧ jnE (bkR x (K : Int)) (v : Int) = 0 ∧ jnR (bkR x (K : Int)) (v : Int) = x := by
  have hE : bkE (K : Int) v = 0 := by
    unfold bkE
    rw [if_neg (by omega), Int.toNat_natCast, if_neg (by omega)]
  have hR : bkR x (K : Int) = (List.range K).map (bkB x K q) := by
    unfold bkR bkL
    rw [hx, hE, if_pos rfl, Int.toNat_natCast, hq]
  have hle := le_upN (a := v) hK1
  rw [← hq, Nat.mul_comm] at hle
  have hlen : (x ++ List.replicate (K * q - x.length) 0).length = K * q := by rw [List.length_append, List.length_replicate, hx]; omega
  have hbl : ∀ b ∈ bkR x (K : Int), b.length = q := fun b hb => by
    rw [hR, List.mem_map] at hb
    obtain ⟨i, hi, rfl⟩ := hb
    rw [List.mem_range] at hi
    unfold bkB
    rw [List.length_take, List.length_drop, hlen]
    have h1 : (i + 1) * q ≤ K * q := Nat.mul_le_mul_right _ hi
    rw [Nat.succ_mul] at h1
    omega
  have hll : (bkR x (K : Int)).length = K := by rw [hR, List.length_map, List.length_range]
  have hok : jnOk (bkR x (K : Int)) (v : Int) := by
    unfold jnOk
    rw [hll]
    exact ⟨hK1, hK2, by omega, by omega, fun b hb => by rw [hbl b hb, hq]; rfl⟩
  refine ⟨hE, hll, hbl, by unfold jnE; rw [if_pos hok], ?_⟩
  unfold jnR
  rw [if_pos hok, hR]
  have e : (List.range K).map (bkB x K q) = (List.range K).map fun i => ((x ++ List.replicate (K * q - x.length) 0).drop (i * q)).take q := rfl
  have e2 : (x ++ List.replicate (K * q - x.length) (0 : UInt8)).take (K * q) = x ++ List.replicate (K * q - x.length) 0 := List.take_of_length_le (by rw [hlen]; exact Nat.le_refl _)
  rw [e, flat_chunks, e2, Int.toNat_natCast, List.take_left' hx]
end Go.Proofs.Ytfboddnpkaiifaa
/- The caller's law where the assignment to the loop's variables makes memory. -/
namespace Go.Proofs.Ytfboddnpkaiifaa
open Go.RowKit Go.Shelf
variable {F : Fence} {n : Nat} {P : Program}

set_option maxHeartbeats 1000000 in
/-- the caller's law, the assignment making memory -/
theorem wpIn_rangeOkH {α : Type} {g : Operand} {ps : Array Tmp} {assign body : Code} {Q : Exit → Act → World → Prop} {a : Act} {w : World}
    (hro : F.round = none) (h1 : 1 ≤ n) {gf : Nat} {lb : Array Value} (hg : a.eval g = .func (.func gf) #[] lb) (hFg : F.fn gf) (eg : ∀ args w, (callFunc gf args).run P w = .ok (.enter gf args) w)
    {encs : α → Array Value} {Kp : World → World → Prop} {Ok : List α → α → World → World → Prop} {S Sp : List α → Prop} {w0 : World} (hseq : SeqOk F (n - 1) P gf lb encs Kp Ok S Sp w0)
    (hKt : ∀ {A B C : World}, Kp A B → Kp B C → Kp A C) (hKb : ∀ (W : World) (l : Nat) (o o' : Obj), w.heap.size ≤ l → W.heap[l]? = some o → o.isCells = false → o.isWalk = false → Kp W (W.putObj l o'))
    (Ax : List α → α → World → Act → World → Prop) (hAx : ∀ pre x (W0 : World) (a' : Act) (W : World) (l : Nat) (o o' : Obj), Ax pre x W0 a' W → W.heap[l]? = some o → o.isCells = false → Ax pre x W0 a' (W.putObj l o'))
    (hb0 : Below w0.heap.size w0 w) (hps : ∀ x, (encs x).size = ps.size)
    (I : List α → World → Prop) (Ix : Code → List α → World → Prop) (hI : OwnFrom w.heap.size I) (hIx : ∀ c, OwnFrom w.heap.size (Ix c)) (h0 : I [] w)
    (hassign : ∀ (l : Nat) (pre : List α) (x : α) (W0 W : World) (K : Act → World → Prop), I pre W0 → I pre W → KeptC W0 W → Ok pre x W0 W → (∀ (a' : Act) (W' : World), KeepsFrom w.heap.size W W' → Kp W W' → I pre W' → Ax pre x W0 a' W' → K a' W') →
      assign.wpIn (F.inRound l) (n - 1 - 1) P (Exit.then K (fun _ _ _ => False)) { tmps := (ps.zip (encs x)).foldl (fun t (p, v) => t.setIfInBounds p v) a.tmps, defers := [] } W)
    (hbody : ∀ (l : Nat) (pre : List α) (x : α) (W0 : World) (a' : Act) (W : World), I pre W → Ax pre x W0 a' W → body.wpIn (F.inRound l) (n - 1 - 1) P (ownPostG w.heap.size Kp I Ix (pre ++ [x]) W) a' W)
    (hdone : ∀ (D : Nat) (xs : List α) (W : World), w.heap.size ≤ D → S xs → I xs W → W.heap[D]? = some (.deferred (some [])) → Q .normal { a with defers := { target := .collected D, args := #[] } :: a.defers } W)
    (hstop : ∀ (D : Nat) (c : Code) (pre : List α) (W : World), w.heap.size ≤ D → Sp pre → Ix c pre W → W.heap[D]? = some (.deferred (some [])) → c.wpIn F n P Q { a with defers := { target := .collected D, args := #[] } :: a.defers } W) :
    (Code.rangeFunc g ps assign body).wpIn F n P Q a w := by
  refine wpIn_rangeFunc fun fn hfn => ?_
  rw [hro]
  -- D the block for the rounds' deferred calls, R the loop's record
  obtain ⟨D, hD⟩ : ∃ D, D = w.heap.size := ⟨_, rfl⟩
  obtain ⟨rec, hrec⟩ : ∃ rec : LoopState → Option Code → Loop, rec = fun st pe => { state := st, pending := pe, fn, tmps := a.tmps, params := ps, assign, body, defers := D } := ⟨_, rfl⟩
  obtain ⟨V, hV⟩ : ∃ V, V = (w.alloc (.deferred (some []))).alloc (.loop (rec .ready none)) := ⟨_, rfl⟩
  have hsz : V.heap.size = D + 2 := by rw [hV, hD]; simp
  have hrun : (Instr.enterLoop fn a.tmps ps assign body none).run P w = .ok (D + 1, [{ target := .collected D, args := #[] }]) V := by
    rw [hV, hrec, hD]; exact run_enterLoop_outer _ _ _ _ _
  have hVl : V.heap[D + 1]? = some (.loop (rec .ready none)) := by
    have h := World.alloc_heap_new (w.alloc (.deferred (some []))) (.loop (rec .ready none))
    rw [World.size_alloc, ← hD] at h
    rw [hV]; exact h
  have hVd : V.heap[D]? = some (.deferred (some [])) := by
    rw [hV, hD]; exact (Below.heap_alloc _ _ _ (by simp)).trans (World.alloc_heap_new w _)
  have hVI : I [] V := by rw [hV]; exact hI.alloc _ (hI.alloc _ h0)
  have hVb : Below w0.heap.size w0 V := by
    rw [hV]; exact hb0.trans ((((Below.refl _ w).alloc (Nat.le_refl _) _).alloc (by simp) _).mono hb0.size)
  have hDw : w.heap.size ≤ D := by omega
  clear hV
  -- the two facts of the law's own, kept by what turns other blocks
  have two : ∀ {A B : World} {row : Option Nat} (o1 o2 : Obj), o1.isCells = false → o2.isCells = false → o1.isWalk = false → o2.isWalk = false → A.grownBy B row → (∀ r, row = some r → V.heap.size ≤ r ∧ ∃ o : Obj, A.heap[r]? = some o ∧ o.isWalk = true) →
      A.heap[D + 1]? = some o1 → A.heap[D]? = some o2 → B.heap[D + 1]? = some o1 ∧ B.heap[D]? = some o2 := by
    intro A B row o1 o2 _ _ _ _ hgr hr e1 e2
    have ne : ∀ k, k < V.heap.size → row ≠ some k := fun k hk e => by have := (hr k e).1; omega
    have h1 := (Array.getElem?_eq_some_iff.1 e1).1
    have h2 := (Array.getElem?_eq_some_iff.1 e2).1
    exact ⟨(hgr.block _ h1 (Ne.symm (ne (D + 1) (by omega)))).trans e1, (hgr.block _ h2 (Ne.symm (ne D (by omega)))).trans e2⟩
  have nw : ∀ {A : World} {row : Option Nat}, (∀ r, row = some r → V.heap.size ≤ r ∧ ∃ o : Obj, A.heap[r]? = some o ∧ o.isWalk = true) → (∀ r, row = some r → w.heap.size ≤ r ∧ ∃ o : Obj, A.heap[r]? = some o ∧ o.isCells = false) :=
    fun hr r e => by obtain ⟨hB, o, ho, hw⟩ := hr r e; exact ⟨by omega, o, ho, Obj.not_cells_of_walk hw⟩
  refine ⟨D + 1, _, V, { target := .fn (.func gf) lb, args := #[.func (.yield (D + 1)) #[] #[]] }, V, gf, #[.func (.yield (D + 1)) #[] #[]] ++ lb, V, hrun, ?_, ?_, ?_, fun _ => h1, ?_⟩
  · simp only [resolve, hg]
    simp [go_sem]
  · intro f' hf'
    simp [Target.leads] at hf'
    subst hf'
    exact hFg
  · simp [invoke, go_sem, eg]
  refine CallsIn.mono (hseq (D + 1) (fun pre W => I pre W ∧ W.heap[D + 1]? = some (.loop (rec .ready none)) ∧ W.heap[D]? = some (.deferred (some [])))
    (fun pre W => ∃ c, Ix c pre W ∧ W.heap[D + 1]? = some (.loop (rec .done (some c))) ∧ W.heap[D]? = some (.deferred (some []))) V hVb
    (fun s A B row hs hgr hr => ⟨hI s A B row hs.1 hgr (nw hr), two _ _ rfl rfl rfl rfl hgr hr hs.2.1 hs.2.2⟩)
    (fun s A B row ⟨c, hc, e1, e2⟩ hgr hr => ⟨c, hIx c s A B row hc hgr (nw hr), two _ _ rfl rfl rfl rfl hgr hr e1 e2⟩) ?_ ⟨hVI, hVl, hVd⟩) ?_
  · rintro pre x W0 W ⟨hi0, _, _⟩ ⟨hi, hl, hk⟩ hkc hok
    have hy := run_yield (P := P) (args := encs x) hl (by rw [hrec]; exact hps x)
    rw [hrec] at hy
    refine ⟨fn, _, assign, body, hy, roundIn_of_wpIn hfn (hassign _ pre x W0 W _ hi0 hi hkc hok (fun a' W' hkf hkp hi' hax => ?_))⟩
    have hl2 : W'.heap[D + 1]? = some (.loop (rec .ready none)) := hkf.same _ _ (by omega) hl (by rw [hrec]; rfl)
    have hk2 := hkf.same _ _ hDw hk rfl
    obtain ⟨U, hU⟩ : ∃ U, U = W'.putObj (D + 1) (.loop { rec .ready none with state := .busy }) := ⟨_, rfl⟩
    have hbeg : (Instr.beginRound (D + 1)).run P W' = .ok () U := by rw [hU]; exact run_beginRound hl2 (by rw [hrec])
    refine ⟨U, hbeg, ?_⟩
    have hUl : U.heap[D + 1]? = some (.loop { rec .ready none with state := .busy }) := by rw [hU]; exact World.putObj_heap_same (Array.getElem?_eq_some_iff.1 hl2).1
    have hUd : U.heap[D]? = some (.deferred (some [])) := by rw [hU]; exact (World.putObj_heap_other (by omega)).trans hk2
    have hUK : Kp W U := hKt hkp (by rw [hU]; exact hKb _ _ _ _ (by omega) hl2 (by rw [hrec]; rfl) (by rw [hrec]; rfl))
    have hUI : I pre U := by rw [hU]; exact hI.putObj _ hi' (by omega) hl2 (by rw [hrec]; rfl)
    have hUA : Ax pre x W0 a' U := by rw [hU]; exact hAx _ _ _ _ _ _ _ _ hax hl2 (by rw [hrec]; rfl)
    clear hU hbeg
    refine wpIn_mono (hbody _ pre x W0 a' U hUI hUA) ?_
    -- the round's end
    have fin : ∀ (j : Option Code) (X : World), KeepsFrom w.heap.size U X → ∃ Y, Y = X.putObj (D + 1) (.loop (rec (if j.isNone then .ready else .done) j)) ∧
        (Instr.endRound (D + 1) j).run P X = .ok (.bool j.isNone) Y ∧ X.heap[D + 1]? = some (.loop { rec .ready none with state := .busy }) ∧ Y.heap[D + 1]? = some (.loop (rec (if j.isNone then .ready else .done) j)) ∧ Y.heap[D]? = some (.deferred (some [])) := by
      intro j X hX
      have e1 := hX.same _ _ (by omega) hUl rfl
      have e2 := hX.same _ _ hDw hUd rfl
      have hr := run_endRound (P := P) j e1
      rw [hrec] at hr
      refine ⟨_, rfl, ?_, e1, World.putObj_heap_same (Array.getElem?_eq_some_iff.1 e1).1, (World.putObj_heap_other (by omega)).trans e2⟩
      rw [hrec]
      exact hr
    have leave : ∀ (c : Code) (X : World), KeepsFrom w.heap.size U X → Ix c (pre ++ [x]) X → ∃ Y, (Instr.endRound (D + 1) (some c)).run P X = .ok (.bool false) Y ∧ Ix c (pre ++ [x]) Y ∧ Y.heap[D + 1]? = some (.loop (rec .done (some c))) ∧ Y.heap[D]? = some (.deferred (some [])) := by
      intro c X hX hx
      obtain ⟨Y, hY, hr, e0, e1, e2⟩ := fin (some c) X hX
      refine ⟨Y, hr, ?_, e1, e2⟩
      rw [hY]
      exact (hIx c).putObj _ hx (by omega) e0 rfl
    rintro e a3 X hp
    cases e with
    | normal =>
      obtain ⟨hX, hXK, hXI⟩ := hp
      obtain ⟨Y, hY, hr, e0, e1, e2⟩ := fin none X hX
      refine ⟨_, _, hr, .inl ⟨rfl, ⟨?_, e1, e2⟩, ?_⟩⟩
      · rw [hY]; exact hI.putObj _ hXI (by omega) e0 rfl
      · rw [hY]; exact hKt (hKt hUK hXK) (hKb _ _ _ _ (by omega) e0 rfl rfl)
    | ret => obtain ⟨Y, hr, h2, h3, h4⟩ := leave .ret X hp.1 hp.2; exact ⟨_, _, hr, .inr ⟨rfl, .ret, h2, h3, h4⟩⟩
    | exit id => obtain ⟨Y, hr, h2, h3, h4⟩ := leave (.exit id) X hp.1 hp.2; exact ⟨_, _, hr, .inr ⟨rfl, .exit id, h2, h3, h4⟩⟩
    | goto t => obtain ⟨Y, hr, h2, h3, h4⟩ := leave (.goto t) X hp.1 hp.2; exact ⟨_, _, hr, .inr ⟨rfl, .goto t, h2, h3, h4⟩⟩
    | panic ch => exact hp.elim
    | outgrown => exact hp.elim
  · rintro e X ⟨⟨v, rfl⟩, (⟨xs, hS, hi, hl, hk⟩ | ⟨pre, hSp, c, hi, hl, hk⟩)⟩
    · have hr := run_endLoop (P := P) hl (by rw [hrec]; simp)
      rw [hrec] at hr
      exact ⟨none, _, hr, hdone _ xs _ hDw hS (hI.putObj _ hi (by omega) hl rfl) ((World.putObj_heap_other (by omega)).trans hk)⟩
    · have hr := run_endLoop (P := P) hl (by rw [hrec]; simp)
      rw [hrec] at hr
      exact ⟨some c, _, hr, hstop _ c pre _ hDw hSp ((hIx c).putObj _ hi (by omega) hl rfl) ((World.putObj_heap_other (by omega)).trans hk)⟩


/-- .. what is told of the act behind the assignment told by the act ahead -/
theorem wpIn_rangeOkHA {α : Type} {g : Operand} {ps : Array Tmp} {assign body : Code} {Q : Exit → Act → World → Prop} {a : Act} {w : World}
    (hro : F.round = none) (h1 : 1 ≤ n) {gf : Nat} {lb : Array Value} (hg : a.eval g = .func (.func gf) #[] lb) (hFg : F.fn gf) (eg : ∀ args w, (callFunc gf args).run P w = .ok (.enter gf args) w)
    {encs : α → Array Value} {Kp : World → World → Prop} {Ok : List α → α → World → World → Prop} {S Sp : List α → Prop} {w0 : World} (hseq : SeqOk F (n - 1) P gf lb encs Kp Ok S Sp w0)
    (hKt : ∀ {A B C : World}, Kp A B → Kp B C → Kp A C) (hKb : ∀ (W : World) (l : Nat) (o o' : Obj), w.heap.size ≤ l → W.heap[l]? = some o → o.isCells = false → o.isWalk = false → Kp W (W.putObj l o'))
    (Ax : Array Value → List α → α → World → Act → World → Prop) (hAx : ∀ t pre x (W0 : World) (a' : Act) (W : World) (l : Nat) (o o' : Obj), Ax t pre x W0 a' W → W.heap[l]? = some o → o.isCells = false → Ax t pre x W0 a' (W.putObj l o'))
    (hb0 : Below w0.heap.size w0 w) (hps : ∀ x, (encs x).size = ps.size)
    (I : List α → World → Prop) (Ix : Code → List α → World → Prop) (hI : OwnFrom w.heap.size I) (hIx : ∀ c, OwnFrom w.heap.size (Ix c)) (h0 : I [] w)
    (hassign : ∀ (l : Nat) (pre : List α) (x : α) (W0 W : World) (K : Act → World → Prop), I pre W0 → I pre W → KeptC W0 W → Ok pre x W0 W → (∀ (a' : Act) (W' : World), KeepsFrom w.heap.size W W' → Kp W W' → I pre W' → Ax a.tmps pre x W0 a' W' → K a' W') →
      assign.wpIn (F.inRound l) (n - 1 - 1) P (Exit.then K (fun _ _ _ => False)) { tmps := (ps.zip (encs x)).foldl (fun t (p, v) => t.setIfInBounds p v) a.tmps, defers := [] } W)
    (hbody : ∀ (l : Nat) (pre : List α) (x : α) (W0 : World) (a' : Act) (W : World), I pre W → Ax a.tmps pre x W0 a' W → body.wpIn (F.inRound l) (n - 1 - 1) P (ownPostG w.heap.size Kp I Ix (pre ++ [x]) W) a' W)
    (hdone : ∀ (D : Nat) (xs : List α) (W : World), w.heap.size ≤ D → S xs → I xs W → W.heap[D]? = some (.deferred (some [])) → Q .normal { a with defers := { target := .collected D, args := #[] } :: a.defers } W)
    (hstop : ∀ (D : Nat) (c : Code) (pre : List α) (W : World), w.heap.size ≤ D → Sp pre → Ix c pre W → W.heap[D]? = some (.deferred (some [])) → c.wpIn F n P Q { a with defers := { target := .collected D, args := #[] } :: a.defers } W) :
    (Code.rangeFunc g ps assign body).wpIn F n P Q a w :=
  wpIn_rangeOkH hro h1 hg hFg eg hseq hKt hKb (Ax a.tmps) (hAx a.tmps) hb0 hps I Ix hI hIx h0 hassign hbody hdone hstop

end Go.Proofs.Ytfboddnpkaiifaa
/- What turns of blocks that are no cells leave. (The head of octet.Xor's text.) -/
namespace Go.Proofs.Ytfboddnpkaiifaa
open Go.RowKit Go.Shelf
attribute [local go_sem] Oper.semAt_some

/-- a contract from a body that ranges over a function; the walk is the plain one -/
theorem calls_of_wp_marks {P : Program} {f : FuncId} {fn : Func} {c : Code} {args : Array Value} {w : World} {R : Ending → World → Prop} (hf : P.funcs[f]? = some fn) (hb : fn.body = some c)
    (h : c.wp P (bodyPostM Fence.wide 3 P fn R) { tmps := args ++ Array.replicate (fn.ntmps - args.size) undef, defers := [] } w) : Calls P f args w R :=
  (callsIn_wide (n := 3)).1 (callsIn_of_wp_marks hf hb trivial (wpIn_wide.2 h) rfl)
/-- what a turn of another block, no cells, leaves -/
theorem Row.nc {A B : World} {g : Nat} {t : TypeId} {cs : Array Value} {row : Option Nat} {b0 : Nat} (h : Row A g t cs) (hg : A.grownBy B row) (hr : ∀ r, row = some r → b0 ≤ r ∧ ∃ o : Obj, A.heap[r]? = some o ∧ o.isCells = false) : Row B g t cs := by
  refine (hg.block g h.lt (fun e => ?_)).trans h
  obtain ⟨_, o, ho, hc⟩ := hr g e.symm
  have h' : A.heap[g]? = some (.cells cs t (0, 0)) := h
  rw [h'] at ho
  injection ho with ho
  subst ho
  cases hc
theorem Own.nc {A B : World} {base : Nat} {e : TypeId} {size : Nat} {a : Option Addr} {n c : Nat} {xs : List Value} {row : Option Nat} {b0 : Nat} (h : Own A base e size a n c xs) (hg : A.grownBy B row) (hr : ∀ r, row = some r → b0 ≤ r ∧ ∃ o : Obj, A.heap[r]? = some o ∧ o.isCells = false) : Own B base e size a n c xs := by
  refine ⟨h.1, ?_⟩
  rcases h.2 with h0 | ⟨g, cur, ha, hb, hh, rest⟩
  · exact .inl h0
  · exact .inr ⟨g, cur, ha, hb, Row.nc (show Row A g e cur from hh) hg hr, rest⟩
theorem grown_nc {w A B : World} {row : Option Nat} {b0 : Nat} (h : w.grownBy A none) (hg : A.grownBy B row) (hb : w.heap.size ≤ b0) (hr : ∀ r, row = some r → b0 ≤ r ∧ ∃ o : Obj, A.heap[r]? = some o ∧ o.isCells = false) : w.grownBy B none :=
  grownBy_none (grownBy_trans (grownBy_some h row) hg) (fun g e => Nat.le_trans hb (hr g e).1)
/-- no cells lie as they lay where cells alone were changed -/
theorem KeepsFrom.ch {A B : World} {S : Nat → Prop} {b0 : Nat} (h : Ch S A B) (hS : ∀ k, S k → ∃ cs t m, A.heap[k]? = some (.cells cs t m)) : KeepsFrom b0 A B :=
  ⟨h.size, fun k o _ hk ho => (h.block k (Array.getElem?_eq_some_iff.1 hk).1 (fun hs => by
    obtain ⟨cs, t, m, e⟩ := hS k hs
    rw [e] at hk
    injection hk with hk
    subst hk
    cases ho)).trans hk⟩
theorem Own.cellsAt {w : World} {base : Nat} {e : TypeId} {size : Nat} {a : Option Addr} {n c : Nat} {xs : List Value} (h : Own w base e size a n c xs) {g : Nat} (hi : In a c g) : ∃ cs t m, w.heap[g]? = some (.cells cs t m) := by
  obtain ⟨hc, ha⟩ := hi
  rcases h.2 with ⟨_, h0⟩ | ⟨g', cur, ha', _, hh, _⟩
  · omega
  · rw [ha] at ha'
    injection ha' with ha'; injection ha' with ha'
    subst ha'
    exact ⟨_, _, _, hh⟩
theorem Own.adr {w : World} {base : Nat} {e : TypeId} {a : Option Addr} {n c : Nat} {xs : List Value} (h : Own w base e 1 a n c xs) (hn : 0 < n) : ∃ g, a = some ⟨g, 0, none⟩ ∧ In a c g := by
  rcases h.2 with ⟨h0, _⟩ | ⟨g, cur, ha, _, _, hnc, _⟩
  · omega
  · exact ⟨g, ha, by omega, ha⟩

end Go.Proofs.Ytfboddnpkaiifaa
/- The law CutWhole. Printed by gens/cutwhole.py. -/
namespace Go.Proofs.Ytfboddnpkaiifaa
open Go.RowKit Go.Shelf
attribute [local go_sem] Oper.semAt_some

theorem size_pr : (Try.prog.info? 45).map (·.size) = some 5 := by kernel_rfl
/-- an operation of a round by its run -/
theorem wpListIn_valR {l n : Nat} {P : Program} {ops : Array Oper} {Q : Exit → Act → World → Prop} {o : Oper} {rest : List Oper} {a : Act} {w w1 : World} {v : Value}
    (hw : Region.wanted o (yielded ops a.tmps) = true) (hd : ∀ c, o.op ≠ .defer c) (hr : (execOp a.eval o).run P w = .ok (.value v) w1) (h : wpListIn (Fence.wide.inRound l) n P ops Q rest (a.put o.dst v) w1) : wpListIn (Fence.wide.inRound l) n P ops Q (o :: rest) a w := by
  unfold wpListIn
  rw [if_pos hw]
  refine ⟨fun _ _ => trivial, ?_⟩
  rw [Oper.semAt_eq _ _ _ hd, hr]
  simp only [Oper.uponIn]
  exact h
/-- a store of a round by its run -/
theorem wpListIn_skipR {l n : Nat} {P : Program} {ops : Array Oper} {Q : Exit → Act → World → Prop} {o : Oper} {rest : List Oper} {a : Act} {w w1 : World} (t : TypeId) (x y : Operand) (_ho : o.op = .store t x y)
    (hw : Region.wanted o (yielded ops a.tmps) = true) (hd : ∀ c, o.op ≠ .defer c) (hr : (execOp a.eval o).run P w = .ok .skip w1) (h : wpListIn (Fence.wide.inRound l) n P ops Q rest (a.put o.dst undef) w1) : wpListIn (Fence.wide.inRound l) n P ops Q (o :: rest) a w := by
  unfold wpListIn
  rw [if_pos hw]
  refine ⟨fun _ _ => trivial, ?_⟩
  rw [Oper.semAt_eq _ _ _ hd, hr]
  simp only [Oper.uponIn]
  exact h
theorem func_nilS (fn : Fn) (a c : Array Value) (w : World) : (binOp .eql 69 (.func fn a c) .nilFunc).run Try.prog w = .ok (.bool false) w := by
  kernel_rfl
/-- what stands while the segments are gone through -/
def WhI (w : World) (b4 b5 b7 b8 B : Nat) (s : Sh) (pre : List Pce) (W : World) : Prop :=
  ∃ ao m co, Row W b4 4 #[.bool false] ∧ Row W b5 47 #[.int .i64 s.k, .int .i64 s.n, .int .i64 s.seg, .int .i64 s.size, .int .i64 s.segs, .int .i64 s.tail, .int .i64 s.block, .int .i64 s.last] ∧ Row W b7 22 #[.slice ao m co] ∧ BOwn W B ao m co (pre.map Pce.b).flatten ∧ Row W b8 3 #[.int .i64 (pre.length : Int)] ∧ w.grownBy W none ∧ B ≤ W.heap.size
theorem WhI.own {w : World} {b4 b5 b7 b8 B b0 : Nat} {s : Sh} (hb : w.heap.size ≤ b0) : OwnFrom b0 (WhI w b4 b5 b7 b8 B s) :=
  fun _ _ _ _ ⟨ao, m, co, h1, h2, h3, h4, h5, h6, h7⟩ hg hr => ⟨ao, m, co, h1.nc hg hr, h2.nc hg hr, h3.nc hg hr, h4.nc hg hr, h5.nc hg hr, grown_nc h6 hg hb hr, Nat.le_trans h7 hg.size⟩
theorem sgs_idx {s : Sh} {l : List UInt8} (hf : fits s) (hl : (l.length : Int) = s.size) {S : Nat} (hS : s.segs = (S : Int)) {pre : List Pce} {x : Pce} (h : ∃ r, pre.map Pce.pr ++ x.pr :: r = sgs s l) : x.at_ = pre.length ∧ x.b = sgR s l (pre.length : Int) ∧ pre.length < S := by
  obtain ⟨r, hr⟩ := h
  have hS' : s.segs.toNat = S := by rw [hS]; rfl
  have e : sgs s l = (List.range S).map fun (j : Nat) => (j, sgR s l (j : Int)) := by unfold sgs; rw [if_pos ⟨hf, hl⟩, hS']
  rw [e] at hr
  have hlen := congrArg List.length hr
  simp only [List.length_append, List.length_map, List.length_cons, List.length_range] at hlen
  have hlt : pre.length < S := by omega
  have h1 := congrArg (fun z => z[pre.length]?) hr
  simp only [List.getElem?_append_right (show (pre.map Pce.pr).length ≤ pre.length by simp), List.length_map, Nat.sub_self, List.getElem?_cons_zero, List.getElem?_map, List.getElem?_range hlt, Option.map_some] at h1
  injection h1 with h1
  unfold Pce.pr at h1
  injection h1 with h2 h3
  exact ⟨h2, h3, hlt⟩
theorem sgs_len {s : Sh} {l : List UInt8} (hf : fits s) (hl : (l.length : Int) = s.size) {S : Nat} (hS : s.segs = (S : Int)) : (sgs s l).length = S := by
  have hS' : s.segs.toNat = S := by rw [hS]; rfl
  unfold sgs
  rw [if_pos ⟨hf, hl⟩, hS', List.length_map, List.length_range]

set_option maxRecDepth 100000 in
set_option maxHeartbeats 4000000 in
theorem whole_walk (pk pn pg ph : Int) (pa : Option Addr) (pl pc : Nat) (a : Option Addr) (c n : Nat) (la : List UInt8) (w : World) (ha : BLies w a la) (hln : la.length = n) :
    Calls Try.prog 13 #[prV pk pn pg ph pa pl pc, .slice a n c] w fun e w' => e = .returned (.bool true) ∧ w.grownBy w' none := by
  have hsh := fun w => shape_t pk pn pg ph (n : Int) pa pl pc w
  have hcases : shE pk pn pg pl (n : Int) = 0 → fits (shS pk pn pg pl (n : Int)) ∧ (la.length : Int) = (shS pk pn pg pl (n : Int)).size := fun h => ⟨sh_fits h, by rw [(sh_fields h).2.2.2, hln]⟩
  have hwf : (shS pk pn pg pl (n : Int)).Wf := sh_wf pk pn pg pl (n : Int)
  generalize shE pk pn pg pl (n : Int) = E at hsh hcases
  generalize shS pk pn pg pl (n : Int) = s at hsh hcases hwf
  unfold Sh.val prV at hsh
  obtain ⟨ish, hish, hishz, hishs⟩ := shape_info
  obtain ⟨ib, hib, hibz, hibs, _⟩ := info_parts (show (Try.prog.info? 4).map (fun i => (i.zero, i.size, i.bytes)) = some (some (.bool false), 1, 1) by kernel_rfl)
  obtain ⟨il, hil, hilz, hils, _⟩ := info_parts (show (Try.prog.info? 22).map (fun i => (i.zero, i.size, i.bytes)) = some (some (.slice none 0 0), 1, 24) by kernel_rfl)
  obtain ⟨ii, hii, hiiz, hiis, _⟩ := info_parts (show (Try.prog.info? 3).map (fun i => (i.zero, i.size, i.bytes)) = some (some (.int .i64 0), 1, 8) by kernel_rfl)
  have HSH := Lib.hid hsh
  have HCA := Lib.hid hcases
  have HWF := Lib.hid hwf
  have HA := Lib.hid ha
  have HLN := Lib.hid hln
  clear hsh hcases hwf ha hln
  unfold prV
  refine calls_of_wp_marks Try.func13 rfl ?_
  simp only [Try.ntmps13, List.size_toArray, List.length_cons, List.length_nil, Nat.reduceAdd, Nat.reduceSub, Array.replicate_succ, Array.replicate_zero, List.push_toArray, List.append_toArray, List.nil_append, List.cons_append]
  go_upto_region 1 with (first
    | (refine wpList_boxed rfl rfl #[.int .i64 pk, .int .i64 pn, .int .i64 pg, .int .i64 ph, .slice pa pl pc] rfl ?_; intro w1 hs1 hg1 hr1; have HG1 := Lib.hid hg1; have HR1 := Lib.hid hr1; clear hs1 hg1 hr1)
    | (refine wpList_made rfl rfl hib hibz ?_; intro w2 hs2 hg2 hr2; have HG2 := Lib.hid hg2; have HB4 := Lib.hid (show Row w2 w1.heap.size 4 #[.bool false] from hr2); have HR2 := Lib.hid (HR1.out.grown hg2); clear hs2 hg2 hr2))
  obtain ⟨b2, hb2⟩ : ∃ b2, b2 = w.heap.size := ⟨_, rfl⟩
  obtain ⟨b4, hb4⟩ : ∃ b4, b4 = w1.heap.size := ⟨_, rfl⟩
  have hw4 : w.heap.size ≤ b4 := by rw [hb4]; exact HG1.out.size
  have HG := Lib.hid (grownBy_trans HG1.out HG2.out)
  rw [← hb2] at HR2 HR1 ⊢
  rw [← hb4] at HB4 ⊢
  clear hb2 hb4 HR1 HG1 HG2
  go_upto_region 2 with (first
    | (refine wpList_load_row rfl 45 _ rfl b2 rfl 45 #[.int .i64 pk, .int .i64 pn, .int .i64 pg, .int .i64 ph, .slice pa pl pc] (0, 0) _ HR2.out Try.underlying45 rfl size_pr ?_)
    | (go_at_call 29; refine (HSH.out w2).mono ?_; rintro e w3 ⟨rfl, hg3⟩; have HG3 := Lib.hid (grownBy_trans HG.out hg3); have HB43 := Lib.hid (HB4.out.grown hg3); clear hg3)
    | (refine wpList_fresh rfl rfl rfl rfl rfl hish hishz (by rw [hishs]; rfl) #[.int .i64 s.k, .int .i64 s.n, .int .i64 s.seg, .int .i64 s.size, .int .i64 s.segs, .int .i64 s.tail, .int .i64 s.block, .int .i64 s.last] rfl rfl rfl (by simp [Value.oneCell']) ?_; intro w4 hs4 hg4 hr4; have HG4 := Lib.hid (grownBy_trans HG3.out hg4); have HB44 := Lib.hid (HB43.out.grown hg4); have HS4 := Lib.hid hr4; clear hs4 hg4 hr4))
  obtain ⟨b5, hb5⟩ : ∃ b5, b5 = w3.heap.size := ⟨_, rfl⟩
  have hw5 : b4 < b5 := by rw [hb5]; exact HB43.out.lt
  rw [← hb5] at HS4 ⊢
  clear hb5 HG HB4 HB43 HG3 HR2
  by_cases hE : E = 0
  · subst hE
    obtain ⟨hfit, hsize⟩ := HCA.out rfl
    obtain ⟨S, K, G, N⟩ := seg_num hfit hsize
    have hnb : n ≤ 16777216 := sg_size hfit (by rw [← HLN.out]; exact hsize)
    have hfl := segs_flat hfit hsize
    have HFIT := Lib.hid hfit
    have HSIZE := Lib.hid hsize
    have HN := Lib.hid N
    have HFL := Lib.hid hfl
    clear hfit hsize N hfl HCA HSH
    go_wp2_with fail
    refine (awake_n _).mono ?_
    rintro e w5 ⟨rfl, g⟩
    have HG5 := Lib.hid (grownBy_trans HG4.out g)
    have HB45 := Lib.hid (HB44.out.grown g)
    have HS5 := Lib.hid (HS4.out.grown g)
    clear g HG4 HB44 HS4
    go_upto_region 6 with (first
      | (refine wpList_made rfl rfl hil hilz ?_; intro w6 hs6 hg6 hr6; have HG6 := Lib.hid (grownBy_trans HG5.out hg6); have HB46 := Lib.hid (HB45.out.grown hg6); have HS6 := Lib.hid (HS5.out.grown hg6); have H76 := Lib.hid (show Row w6 w5.heap.size 22 #[.slice none 0 0] from hr6); clear hs6 hg6 hr6)
      | (refine wpList_fresh1 rfl rfl rfl rfl rfl hii hiiz hiis rfl (.int .i64 0) rfl rfl rfl ?_; intro w7 hs7 hg7 hr7; have HG7 := Lib.hid (grownBy_trans HG6.out hg7); have HB47 := Lib.hid (HB46.out.grown hg7); have HS7 := Lib.hid (HS6.out.grown hg7); have H77 := Lib.hid (H76.out.grown hg7); have H87 := Lib.hid hr7; clear hs7 hg7 hr7))
    obtain ⟨b7, hb7⟩ : ∃ b7, b7 = w5.heap.size := ⟨_, rfl⟩
    obtain ⟨b8, hb8⟩ : ∃ b8, b8 = w6.heap.size := ⟨_, rfl⟩
    have hw7 : b5 < b7 := by rw [hb7]; exact HS5.out.lt
    have hw8 : b7 < b8 := by rw [hb8, hb7]; exact H76.out.lt
    have hw9 : b8 < w7.heap.size := by rw [hb8]; exact H87.out.lt
    rw [← hb7] at H77 ⊢
    rw [← hb8] at H87 ⊢
    clear hb7 hb8 HG5 HB45 HS5 HG6 HB46 HS6 H76
    go_wp2_with (first | (refine wpList_load_row rfl 47 _ rfl b5 rfl 47 #[.int .i64 s.k, .int .i64 s.n, .int .i64 s.seg, .int .i64 s.size, .int .i64 s.segs, .int .i64 s.tail, .int .i64 s.block, .int .i64 s.last] (0, 0) _ HS7.out Try.underlying47 rfl size_shape' ?_))
    refine (segments_n s a c n la _ (HA.out.grown HG7.out) HLN.out (by omega)).mono ?_
    rintro e w8 ⟨c1, c2, ac, cc, rfl, hc, g⟩
    have HC := Lib.hid hc
    have HG8 := Lib.hid (grownBy_trans HG7.out g)
    have HB48 := Lib.hid (HB47.out.grown g)
    have HS8 := Lib.hid (HS7.out.grown g)
    have H78 := Lib.hid (H77.out.grown g)
    have H88 := Lib.hid (H87.out.grown g)
    have hw10 := g.size
    have hbp : ∀ k, Chk.S c1 c2 ac cc k → w7.heap.size ≤ k ∧ k < w8.heap.size := fun k hk => HC.out.lt hk
    have HBP := Lib.hid hbp
    clear hc g HG7 HB47 HS7 H77 H87 hbp
    have hnf := func_nilS (.func 59) #[] #[.pointer (some ⟨c1, 0, none⟩), .pointer (some ⟨c2, 0, none⟩)]
    go_wp2_with fail
    refine (wpIn_wide (n := 3)).1 ?_
    refine wpIn_rangeOkA (F := Fence.wide) (n := 3) (fun t x => (((t.setIfInBounds 41 (.int .i64 (x.at_ : Int))).setIfInBounds 42 x.sl.val).setIfInBounds 9 (.int .i64 (x.at_ : Int))).setIfInBounds 10 x.sl.val) rfl (by omega) (gf := 59) (lb := #[.pointer (some ⟨c1, 0, none⟩), .pointer (some ⟨c2, 0, none⟩)]) rfl trivial (enters_of Try.func59 (by kernel_rfl) rfl)
      (segs1_in 2 _ c1 c2 s HWF.out ac n cc la w8 HC.out) KeptS.trans (fun W l o o' hl _ _ _ => KeptS.put W l o' (fun hs => by have := HBP.out _ hs; omega))
      (fun pre x W0 W l o o' h hl ho => h.put l o' hl ho) (Below.refl _ _) (fun _ => rfl)
      (WhI w b4 b5 b7 b8 w8.heap.size s) (fun _ _ _ => False) (WhI.own HG8.out.size) (fun _ _ _ _ _ h _ _ => h)
      ⟨none, 0, 0, HB48.out, HS8.out, H78.out, Own.nil _ _ _ _ _, H88.out, HG8.out, Nat.le_refl _⟩ ?assign ?body ?done ?stop
    case assign =>
      intro lp x W K hK
      simp only [Pce.vals]
      gi_wp2
      exact hK
    case stop =>
      rintro D c pre W _ _ h _
      exact h.elim
    case body =>
      rintro lp pre ⟨at_, ⟨sa, sm, sc⟩, pb⟩ W0 W hI0 hI hkc hok
      obtain ⟨hat, hpb, hlt⟩ := sgs_idx HFIT.out HSIZE.out HN.out.segs hok.at_
      simp only at hat hpb
      subst hat
      obtain ⟨ao, m, co, r4, r5, r7, ho, r8, hgw, hob⟩ := hI
      obtain ⟨v, q, hze, hzv, hzq, hlv, hv1, hv2, hq, hv3⟩ := HN.out.one pre.length hlt
      rw [← hpb] at hlv
      have hown : BOwn W W0.heap.size sa sm sc pb := hok.own
      obtain rfl : v = sm := by rw [← hlv]; exact BOwn.len hown
      obtain ⟨hE, hRl, hRb, hJE, hJR⟩ := blk_back hlv HN.out.K1 HN.out.K2 hv1 hv2 hq
      have hse := fun u => segsize_n s HWF.out (pre.length : Int) u
      have hbe := fun u => blocksize_n s HWF.out (pre.length : Int) u
      rw [hze, hzv] at hse
      rw [hze, hzq] at hbe
      have hbl := fun (u : World) (h : BLies u sa pb) => blocks_n sa sc v (K : Int) pb u h hlv (BOwn.cap hown).1
      have hjn := fun (a : Option Addr) (c : Nat) (L : List Sl) (u : World) (h : LLies u a L (bkR pb (K : Int))) => join_n a c K (v : Int) L (bkR pb (K : Int)) u h hRl
      rw [hE] at hbl
      rw [hJE, hJR] at hjn
      unfold Sh.val at hse hbe
      generalize bkR pb (K : Int) = X at hRl hRb hbl hjn
      have hmb : m ≤ 16777216 := by
        have h1 := BOwn.len ho
        obtain ⟨r, hr⟩ := hok.at_
        have h2 := congrArg (fun z => ((z.map (·.2)).flatten).length) hr
        simp only [List.map_append, List.map_map, List.map_cons, List.flatten_append, List.length_append, HFL.out] at h2
        have h3 : (pre.map Pce.b).flatten.length ≤ la.length := by
          have e : ((·.2) ∘ Pce.pr : Pce → List UInt8) = Pce.b := rfl
          rw [e] at h2
          omega
        rw [HLN.out] at h3
        omega
      have c5k := Row.cell r5 0
      simp at c5k
      rw [HN.out.k] at c5k
      have hS512 := HN.out.S1
      have HSE := Lib.hid hse
      have HBE := Lib.hid hbe
      have HBL := Lib.hid hbl
      have HJN := Lib.hid hjn
      have HXL := Lib.hid hRl
      have HXB := Lib.hid hRb
      have HOWN := Lib.hid hown
      have HLV := Lib.hid hlv
      have HO := Lib.hid ho
      have R4 := Lib.hid r4
      have R5 := Lib.hid r5
      have R50 := Lib.hid r5
      have R7 := Lib.hid r7
      have R8 := Lib.hid r8
      have HGW := Lib.hid hgw
      have HOB := Lib.hid hob
      clear hse hbe hbl hjn hRl hRb hown hlv ho r4 r5 r7 r8 hgw hze hzv hzq hE hJE hJR hq hok hI0 hkc hpb
      simp only [List.setIfInBounds_toArray, List.set_cons_zero, List.set_cons_succ, Sl.val]
      gi_wp2_with (first
        | (refine wpListIn_valR rfl (fun c h => by cases h) (run_load_op _ _ 47 (.tmp 5) rfl b5 rfl 47 #[.int .i64 s.k, .int .i64 s.n, .int .i64 s.seg, .int .i64 s.size, .int .i64 s.segs, .int .i64 s.tail, .int .i64 s.block, .int .i64 s.last] R5.out Try.underlying47 rfl size_shape') ?_)
        | (refine ⟨trivial, ?_⟩; gi_at_call 40; refine (calls_wide (HSE.out W)).mono ?_; rintro e W1 ⟨rfl, hg⟩; replace R5 := Lib.hid (R5.out.grown hg); have GW1 := Lib.hid hg; clear hg c5k)
        | (refine ⟨trivial, ?_⟩; gi_at_call 41; refine (calls_wide (HBE.out W1)).mono ?_; rintro e W2 ⟨rfl, hg⟩; replace R5 := Lib.hid (R5.out.grown hg); have GW2 := Lib.hid (grownBy_trans GW1.out hg); have c5k := Row.cell R5.out 0; simp at c5k; rw [HN.out.k] at c5k; clear hg)
        | (refine ⟨trivial, ?_⟩; gi_at_call 15; refine (calls_wide (HBL.out W2 (BOwn.lies (BOwn.grown HOWN.out GW2.out)))).mono ?_; rintro e W3 ⟨⟨ab, mb, cb, rfl, hlo⟩, hg⟩; replace R5 := Lib.hid (R5.out.grown hg); have GW3 := Lib.hid (grownBy_trans GW2.out hg); have c5m := Row.cell R5.out 0; simp at c5m; rw [HN.out.k] at c5m; have c8 := Row.cell (R8.out.grown GW3.out) 0; simp at c8; obtain rfl : K = mb := (by rw [← HXL.out]; exact hlo.len); have HLO := Lib.hid hlo; clear hg c5k hlo))
      clear c5m c8
      obtain ⟨L, hli⟩ := HLO.out.is
      have HLI := Lib.hid hli
      clear hli
      have hK255 := HN.out.K2
      gi_loopw [17] (fun vi wr => ∃ i : Nat, i ≤ K ∧ vi = .int .i64 (i : Int) ∧ wr = W3) (fun vi _ => K - (intOf vi).toNat)
      case atStart => exact ⟨0, by omega, rfl, rfl⟩
      case round =>
        obtain ⟨i, hi, rfl, rfl⟩ := hrel
        by_cases hik : i < K
        · have hid : decide ((i : Int) < (K : Int)) = true := decide_eq_true (by omega)
          have hil2 : i < L.length := by have h1 := HLI.out.len; have h2 := HXL.out; omega
          obtain ⟨gl, hal, _, _, hcl, _⟩ := Own.cell HLI.out.outer i (by rw [List.length_map]; exact hil2)
          subst hal
          have hin := HLI.out.inner i hil2 (by rw [HXL.out]; exact hik)
          have hnq : (L[i]).n = q := by
            rw [← BOwn.len hin]
            exact HXB.out _ (List.getElem_mem _)
          have hcl2 : wr.cell? ⟨gl, i, none⟩ = some (.slice (L[i]).a q (L[i]).c) := by rw [hcl, ← hnq]; simp [Sl.val]
          clear hcl hin hnq
          gi_wp2
          refine ⟨⟨i + 1, by omega, by go_num, trivial⟩, ?_⟩
          simp only [intOf]
          omega
        · obtain rfl : i = K := by omega
          have hid : decide ((i : Int) < (i : Int)) = false := decide_eq_false (by omega)
          gi_wp2_with (first
            | (refine ⟨trivial, ?_⟩; gi_at_call 23; refine (calls_wide (HJN.out ab cb L wr HLI.out.lies)).mono ?_; rintro e W4 ⟨⟨ak, mk, ck, rfl, hbk⟩, hg⟩; have GW4 := Lib.hid (grownBy_trans GW3.out hg); obtain rfl : v = mk := (by rw [← HLV.out]; exact BOwn.len hbk); have HBK := Lib.hid hbk; clear hg hbk)
            | (refine ⟨trivial, ?_⟩; gi_at_call 27; refine (calls_wide (same_yes ak sa ck sc v v pb W4 (BOwn.lies HBK.out) (BOwn.lies (BOwn.grown HOWN.out GW4.out)) HLV.out HLV.out (by unfold maxLen; omega))).mono ?_; rintro e W5 ⟨rfl, q5, hq5⟩; have hg5 : W4.grownBy W5 none := hq5 ▸ grownBy_drewN _ _ _; have GW5 := Lib.hid (grownBy_trans GW4.out hg5); obtain ⟨a6, c6, W6, hrun, ho6, hch6, hin6⟩ := run_appB W5 (BOwn.grown HO.out GW5.out) ak v ck pb (BOwn.lies (BOwn.grown HBK.out hg5)) HLV.out (by omega) (Nat.le_trans HOB.out GW5.out.size) 22; have HRUN := Lib.hid hrun; have HO6 := Lib.hid ho6; have HCH6 := Lib.hid hch6; have HIN6 := Lib.hid hin6; have HBO := Lib.hid (BOwn.grown HO.out GW5.out); have R75 := Lib.hid (R7.out.grown GW5.out); have c75 := Row.cell R75.out 0; simp at c75; have R76 := Lib.hid (R75.out.ch hch6 (row_in R75.out HBO.out (by decide))); have c76 := Row.cell R76.out 0; have f76 := Row.frozen R76.out 0; simp at c76; clear hq5 q5 hg5 hrun ho6 hch6 hin6)
            | (refine wpListIn_valR rfl (fun c h => by cases h) (run_app_op _ _ _ (.tmp 117) (.tmp 118) rfl _ HRUN.out) ?_; clear c75)
            | (refine wpListIn_skipR (w1 := W6.setCell ⟨b7, 0, none⟩ (.slice a6 (m + v) c6)) 22 (.tmp 7) (.tmp 119) rfl rfl (fun c h => by cases h) (by go_simp) ?_; obtain ⟨W7, hW7⟩ : ∃ W7, W7 = W6.setCell ⟨b7, 0, none⟩ (.slice a6 (m + v) c6) := ⟨_, rfl⟩; rw [← hW7]; have hg7 : W6.grownBy W7 (some b7) := hW7 ▸ grownBy_setCell _ _ _ _; have R77 := Lib.hid (show Row W7 b7 22 #[.slice a6 (m + v) c6] from hW7 ▸ Row.setc R76.out 0 _); have R87 := Lib.hid (((R8.out.grown GW5.out).ch HCH6.out (row_in (R8.out.grown GW5.out) HBO.out (by decide))).grownNe hg7 (by omega)); have c87 := Row.cell R87.out 0; have f87 := Row.frozen R87.out 0; simp at c87; have HG67 := Lib.hid hg7; clear hW7 hg7 c76 f76)
            | (refine wpListIn_skipR (w1 := W7.setCell ⟨b8, 0, none⟩ (.int .i64 ((pre.length : Int) + 1))) 3 (.tmp 8) (.tmp 121) rfl rfl (fun c h => by cases h) (by go_simp) ?_; obtain ⟨W8, hW8⟩ : ∃ W8, W8 = W7.setCell ⟨b8, 0, none⟩ (.int .i64 ((pre.length : Int) + 1)) := ⟨_, rfl⟩; rw [← hW8]; have hg8 : W7.grownBy W8 (some b8) := hW8 ▸ grownBy_setCell _ _ _ _; have R88 := Lib.hid (show Row W8 b8 3 #[.int .i64 ((pre.length : Int) + 1)] from hW8 ▸ Row.setc R87.out 0 _); have HG78 := Lib.hid hg8; clear hW8 hg8 c87 f87))
          have hin : ∀ g, In ao co g → w8.heap.size ≤ g := fun g h => (Own.inn HO.out h).1
          have hch : Ch (fun g => g = b7 ∨ g = b8 ∨ In ao co g) W W8 := (((Ch.ofNone GW5.out _).trans (HCH6.out.mono (fun _ _ h => .inr (.inr h))) (fun _ _ h => h)).trans (Ch.ofSome HG67.out (.inl rfl)) (fun _ _ h => h)).trans (Ch.ofSome HG78.out (.inr (.inl rfl))) (fun _ _ h => h)
          have no : ∀ b, b < b7 → ¬ (b = b7 ∨ b = b8 ∨ In ao co b) := fun b hb h => by
            rcases h with h | h | h
            · omega
            · omega
            · have := hin _ h; omega
          refine ⟨KeepsFrom.ch hch (fun g hS => ?_), KeptS.ch hch (fun g hs hT => ?_), a6, m + v, c6, R4.out.ch hch (no _ (by omega)), R50.out.ch hch (no _ (by omega)), R77.out.grownNe HG78.out (by omega), ?_, ?_, Ch.fresh HGW.out hch (fun g hg hT => ?_), Nat.le_trans HOB.out hch.size⟩
          · rcases hS with rfl | rfl | h
            · exact ⟨_, _, _, R7.out⟩
            · exact ⟨_, _, _, R8.out⟩
            · exact Own.cellsAt HO.out h
          · have h1 := HBP.out _ hs
            rcases hT with h | h | h
            · omega
            · omega
            · have := hin _ h; omega
          · have h1 : BOwn W7 w8.heap.size a6 (m + v) c6 ((pre.map Pce.b).flatten ++ pb) := Own.ch HO6.out (Ch.ofSome (S := fun k => k = b7) HG67.out rfl) (fun h0 g e h => by
              subst h
              exact row_in R76.out HO6.out (by decide) ⟨h0, e⟩)
            have h2 : BOwn W8 w8.heap.size a6 (m + v) c6 ((pre.map Pce.b).flatten ++ pb) := Own.ch h1 (Ch.ofSome (S := fun k => k = b8) HG78.out rfl) (fun h0 g e h => by
              subst h
              exact row_in R87.out h1 (by decide) ⟨h0, e⟩)
            have e : ((pre ++ [(⟨pre.length, ⟨sa, v, sc⟩, pb⟩ : Pce)]).map Pce.b).flatten = (pre.map Pce.b).flatten ++ pb := by simp
            rw [e]
            exact h2
          · have e : (((pre ++ [(⟨pre.length, ⟨sa, v, sc⟩, pb⟩ : Pce)]).length : Nat) : Int) = (pre.length : Int) + 1 := by simp
            rw [e]
            exact R88.out
          · rcases hT with h | h | h
            · omega
            · omega
            · have := hin _ h; omega
    case done =>
      rintro D xs W hD hS ⟨ao, m, co, r4, r5, r7, ho, r8, hgw, hob⟩ hK
      have hflat : (xs.map Pce.b).flatten = la := by
        have e : xs.map Pce.b = (sgs s la).map (·.2) := by rw [← hS, List.map_map]; rfl
        rw [e]
        exact HFL.out
      have hlen : xs.length = S := by rw [← sgs_len HFIT.out HSIZE.out HN.out.segs, ← hS, List.length_map]
      rw [hflat] at ho
      rw [hlen] at r8
      have hmn : n = m := by rw [← HLN.out]; exact BOwn.len ho
      subst hmn
      have hS512 := HN.out.S1
      have c8 := Row.cell r8 0
      have c54 := Row.cell r5 4
      have c7 := Row.cell r7 0
      simp at c8 c54 c7
      rw [HN.out.segs] at c54
      have HO := Lib.hid ho
      have R4 := Lib.hid r4
      have HG := Lib.hid hgw
      have HK := Lib.hid hK
      have HDW := Lib.hid hD
      clear r4 r5 r7 r8 ho hgw hK hD hflat hlen hS
      have hdle : decide ((S : Int) ≤ 512) = true := decide_eq_true (by omega)
      go_wp2_with (first
        | (go_at_call 27; refine (same_yes _ _ _ _ n n la W (BOwn.lies HO.out) (HA.out.grown HG.out) HLN.out HLN.out (by unfold maxLen; omega)).mono ?_; rintro e W1 ⟨rfl, q, hq⟩; have g : W.grownBy W1 none := hq ▸ grownBy_drewN _ _ _; have HG1 := Lib.hid (grownBy_trans HG.out g); have R41 := Lib.hid (R4.out.grown g); have HK1 := Lib.hid ((g.block _ (Array.getElem?_eq_some_iff.1 HK.out).1 (by simp)).trans HK.out); clear hq q g c7 c8 c54)
        | (go_at_call 21; refine (awake_n W1).mono ?_; rintro e W2 ⟨rfl, g⟩; have HG2 := Lib.hid (grownBy_trans HG1.out g); have R42 := Lib.hid (R41.out.grown g); have HK2 := Lib.hid ((g.block _ (Array.getElem?_eq_some_iff.1 HK1.out).1 (by simp)).trans HK1.out); clear g)
        | (refine wpList_put1 rfl rfl b4 rfl (.bool true) rfl R42.out (by kernel_rfl) rfl ?_; intro W3 hs g hr; have HG3 := Lib.hid (grownBy_old HG2.out g hw4); have R43 := Lib.hid hr; have HK3 := Lib.hid ((g.block _ (Array.getElem?_eq_some_iff.1 HK2.out).1 (by have h1 := HDW.out; intro e; injection e with e; omega)).trans HK2.out); clear hs g hr))
      refine ⟨by simp, .inl ⟨_, _, rfl, run_takeDeferred HK3.out, ?_⟩⟩
      exact ⟨_, results_cell1 rfl _ _ b4 _ rfl (R43.out.nc (b0 := 0) (grownBy_putObj' _ D _) (fun r e => by cases e; exact ⟨Nat.zero_le _, _, HK3.out, rfl⟩)), rfl, grown_nc HG3.out (grownBy_putObj' _ D _) (Nat.le_refl _) (fun r e => by cases e; exact ⟨Nat.le_trans HG8.out.size HDW.out, _, HK3.out, rfl⟩)⟩
  · have hne : ((E : Int) != 0) = true := by rw [bne_iff_ne]; omega
    have hne2 : ((E : Int) == 0) = false := by rw [beq_eq_false_iff_ne]; omega
    have hne3 : decide ((E : Int) = 0) = false := decide_eq_false (by omega)
    go_wp2_with (first
      | (go_at_call 21; refine (awake_n w4).mono ?_; rintro e w5 ⟨rfl, g⟩; have HG5 := Lib.hid (grownBy_trans HG4.out g); have HB45 := Lib.hid (HB44.out.grown g); clear g)
      | (refine wpList_put1 rfl rfl b4 rfl (.bool true) rfl HB45.out (by kernel_rfl) rfl ?_; intro W3 hs g hr; have HG6 := Lib.hid (grownBy_old HG5.out g hw4); have R43 := Lib.hid hr; clear hs g hr))
    exact ⟨_, results_cell1 rfl _ _ b4 _ rfl R43.out, rfl, HG6.out⟩

end Go.Proofs.Ytfboddnpkaiifaa
