/- Helpers and contracts of the proofs over this seat: Iter, Chunks, OctRefCh, Chunks1, Iter2, Iter3, Nc. Each states what a function of the program answers, or is plain Lean; its conditions stand in each statement. -/
import Derived.RangeFuncNested
import Derived.RangeFuncBound
import Derived.RangeFuncCalls
import Derived.RangeFuncLeaves
import Derived.Shelf.Abstract
import Derived.Shelf.RegionOpen
import Derived.WalkKit
import Derived.OwnWalkIn
import Derived.TacticsInMore
import Derived.LoopNIn
import Derived.LoopIn
import Derived.Test.YthemlaibjchjpaaPtAA
import Derived.Test.YthemlaibjchjpaaPtAB
import Derived.Test.YthemlaibjchjpaaPtAD
import Derived.Test.YthemlaibjchjpaaPtAH
set_option linter.unusedVariables false
/- A range over a function whose iterator makes memory for what it tells: the round is told what lies in that memory. And: a region that draws its order, in a round. -/
namespace Go.Proofs.Ythemlaibjchjpaa
open Go.RowKit Go.Shelf

/-- cells that lay lie as they lay -/
structure KeptC (W W' : World) : Prop where
  size : W.heap.size ≤ W'.heap.size
  same : ∀ (k : Nat) (o : Obj), W.heap[k]? = some o → o.isCells = true → W'.heap[k]? = some o
theorem KeptC.refl (W : World) : KeptC W W := ⟨Nat.le_refl _, fun _ _ h _ => h⟩
theorem KeptC.put {W W' : World} (h : KeptC W W') (l : Nat) {o : Obj} (o' : Obj) (hl : W'.heap[l]? = some o) (ho : o.isCells = false) : KeptC W (W'.putObj l o') :=
  ⟨Nat.le_trans h.size (grownBy_putObj' W' l o').size, fun k o2 hk h2 => by
    have h3 := h.same k o2 hk h2
    by_cases e : k = l
    · subst e; rw [hl] at h3; injection h3 with h3; subst h3; rw [ho] at h2; cases h2
    · exact (World.putObj_heap_other (by omega)).trans h3⟩
theorem KeptC.of {W W' : World} (h : W.grownBy W' none) : KeptC W W' := ⟨h.size, fun k o hk _ => (h.block k (Array.getElem?_eq_some_iff.1 hk).1 (by simp)).trans hk⟩

/-- what an iterator does that tells each round what it has made for it: W0 the world ahead of the making, W1 behind -/
def SeqOk {α : Type} (F : Fence) (n : Nat) (P : Program) (g : Nat) (lb : Array Value) (encs : α → Array Value) (Kp : World → World → Prop) (Ok : List α → α → World → World → Prop) (S Sp : List α → Prop) (w : World) : Prop :=
  ∀ (l : Nat) (J Jx : List α → World → Prop) (W : World), Below w.heap.size w W → AbidesFrom W.heap.size J → AbidesFrom W.heap.size Jx →
    (∀ pre x W0 W1, J pre W0 → J pre W1 → KeptC W0 W1 → Ok pre x W0 W1 → YieldAt F (n - 1) P l (encs x) W1 fun e W' =>
      (e = .returned (.bool true) ∧ J (pre ++ [x]) W' ∧ Kp W1 W') ∨ (e = .returned (.bool false) ∧ Jx (pre ++ [x]) W')) →
    J [] W →
    CallsIn F n P g (#[.func (.yield l) #[] #[]] ++ lb) W fun e W' => (∃ v, e = .returned v) ∧ ((∃ xs, S xs ∧ J xs W') ∨ (∃ pre, Sp pre ∧ Jx pre W'))

variable {F : Fence} {n : Nat} {P : Program}

set_option maxHeartbeats 1000000 in
/-- the caller's law -/
theorem wpIn_rangeOk {α : Type} {g : Operand} {ps : Array Tmp} {assign body : Code} {Q : Exit → Act → World → Prop} {a : Act} {w : World}
    (hro : F.round = none) (h1 : 1 ≤ n) {gf : Nat} {lb : Array Value} (hg : a.eval g = .func (.func gf) #[] lb) (hFg : F.fn gf) (eg : ∀ args w, (callFunc gf args).run P w = .ok (.enter gf args) w)
    {encs : α → Array Value} {Kp : World → World → Prop} {Ok : List α → α → World → World → Prop} {S Sp : List α → Prop} {w0 : World} (hseq : SeqOk F (n - 1) P gf lb encs Kp Ok S Sp w0)
    (hKt : ∀ {A B C : World}, Kp A B → Kp B C → Kp A C) (hKb : ∀ (W : World) (l : Nat) (o o' : Obj), w.heap.size ≤ l → W.heap[l]? = some o → o.isCells = false → o.isWalk = false → Kp W (W.putObj l o'))
    (hOk : ∀ pre x (W0 W : World) (l : Nat) (o o' : Obj), Ok pre x W0 W → W.heap[l]? = some o → o.isCells = false → Ok pre x W0 (W.putObj l o'))
    (hb0 : Below w0.heap.size w0 w) (hps : ∀ x, (encs x).size = ps.size)
    (I : List α → World → Prop) (Ix : Code → List α → World → Prop) (hI : OwnFrom w.heap.size I) (hIx : ∀ c, OwnFrom w.heap.size (Ix c)) (h0 : I [] w) (a₁ : α → Act)
    (hassign : ∀ (l : Nat) (x : α) (W : World) (K : Act → World → Prop), K (a₁ x) W →
      assign.wpIn (F.inRound l) (n - 1 - 1) P (Exit.then K (fun _ _ _ => False)) { tmps := (ps.zip (encs x)).foldl (fun t (p, v) => t.setIfInBounds p v) a.tmps, defers := [] } W)
    (hbody : ∀ (l : Nat) (pre : List α) (x : α) (W0 W : World), I pre W0 → I pre W → KeptC W0 W → Ok pre x W0 W → body.wpIn (F.inRound l) (n - 1 - 1) P (ownPostG w.heap.size Kp I Ix (pre ++ [x]) W) (a₁ x) W)
    (hdone : ∀ (D : Nat) (xs : List α) (W : World), w.heap.size ≤ D → S xs → I xs W → W.heap[D]? = some (.deferred (some [])) → Q .normal { a with defers := { target := .collected D, args := #[] } :: a.defers } W)
    (hstop : ∀ (D : Nat) (c : Code) (pre : List α) (W : World), w.heap.size ≤ D → Sp pre → Ix c pre W → W.heap[D]? = some (.deferred (some [])) → c.wpIn F n P Q { a with defers := { target := .collected D, args := #[] } :: a.defers } W) :
    (Code.rangeFunc g ps assign body).wpIn F n P Q a w := by
  refine wpIn_rangeFunc fun fn hfn => ?_
  rw [hro]
  -- D the block for the rounds' deferred calls, R the loop's record
  obtain ⟨D, hD⟩ : ∃ D, D = w.heap.size := ⟨_, rfl⟩
  obtain ⟨rec, hrec⟩ : ∃ rec : LoopState → Option Code → Loop, rec = fun st pe => { state := st, pending := pe, fn, tmps := a.tmps, params := ps, assign, body, defers := D } := ⟨_, rfl⟩
  obtain ⟨V, hV⟩ : ∃ V, V = (w.alloc (.deferred (some []))).alloc (.loop (rec .ready none)) := ⟨_, rfl⟩
  have hsz : V.heap.size = D + 2 := by rw [hV, hD]; simp
  have hrun : (Instr.enterLoop fn a.tmps ps assign body none).run P w = .ok (D + 1, [{ target := .collected D, args := #[] }]) V := by
    rw [hV, hrec, hD]; exact run_enterLoop_outer _ _ _ _ _
  have hVl : V.heap[D + 1]? = some (.loop (rec .ready none)) := by
    have h := World.alloc_heap_new (w.alloc (.deferred (some []))) (.loop (rec .ready none))
    rw [World.size_alloc, ← hD] at h
    rw [hV]; exact h
  have hVd : V.heap[D]? = some (.deferred (some [])) := by
    rw [hV, hD]; exact (Below.heap_alloc _ _ _ (by simp)).trans (World.alloc_heap_new w _)
  have hVI : I [] V := by rw [hV]; exact hI.alloc _ (hI.alloc _ h0)
  have hVb : Below w0.heap.size w0 V := by
    rw [hV]; exact hb0.trans ((((Below.refl _ w).alloc (Nat.le_refl _) _).alloc (by simp) _).mono hb0.size)
  have hDw : w.heap.size ≤ D := by omega
  clear hV
  -- the two facts of the law's own, kept by what turns other blocks
  have two : ∀ {A B : World} {row : Option Nat} (o1 o2 : Obj), o1.isCells = false → o2.isCells = false → o1.isWalk = false → o2.isWalk = false → A.grownBy B row → (∀ r, row = some r → V.heap.size ≤ r ∧ ∃ o : Obj, A.heap[r]? = some o ∧ o.isWalk = true) →
      A.heap[D + 1]? = some o1 → A.heap[D]? = some o2 → B.heap[D + 1]? = some o1 ∧ B.heap[D]? = some o2 := by
    intro A B row o1 o2 _ _ _ _ hgr hr e1 e2
    have ne : ∀ k, k < V.heap.size → row ≠ some k := fun k hk e => by have := (hr k e).1; omega
    have h1 := (Array.getElem?_eq_some_iff.1 e1).1
    have h2 := (Array.getElem?_eq_some_iff.1 e2).1
    exact ⟨(hgr.block _ h1 (Ne.symm (ne (D + 1) (by omega)))).trans e1, (hgr.block _ h2 (Ne.symm (ne D (by omega)))).trans e2⟩
  have nw : ∀ {A : World} {row : Option Nat}, (∀ r, row = some r → V.heap.size ≤ r ∧ ∃ o : Obj, A.heap[r]? = some o ∧ o.isWalk = true) → (∀ r, row = some r → w.heap.size ≤ r ∧ ∃ o : Obj, A.heap[r]? = some o ∧ o.isCells = false) :=
    fun hr r e => by obtain ⟨hB, o, ho, hw⟩ := hr r e; exact ⟨by omega, o, ho, Obj.not_cells_of_walk hw⟩
  refine ⟨D + 1, _, V, { target := .fn (.func gf) lb, args := #[.func (.yield (D + 1)) #[] #[]] }, V, gf, #[.func (.yield (D + 1)) #[] #[]] ++ lb, V, hrun, ?_, ?_, ?_, fun _ => h1, ?_⟩
  · simp only [resolve, hg]
    simp [go_sem]
  · intro f' hf'
    simp [Target.leads] at hf'
    subst hf'
    exact hFg
  · simp [invoke, go_sem, eg]
  refine CallsIn.mono (hseq (D + 1) (fun pre W => I pre W ∧ W.heap[D + 1]? = some (.loop (rec .ready none)) ∧ W.heap[D]? = some (.deferred (some [])))
    (fun pre W => ∃ c, Ix c pre W ∧ W.heap[D + 1]? = some (.loop (rec .done (some c))) ∧ W.heap[D]? = some (.deferred (some []))) V hVb
    (fun s A B row hs hgr hr => ⟨hI s A B row hs.1 hgr (nw hr), two _ _ rfl rfl rfl rfl hgr hr hs.2.1 hs.2.2⟩)
    (fun s A B row ⟨c, hc, e1, e2⟩ hgr hr => ⟨c, hIx c s A B row hc hgr (nw hr), two _ _ rfl rfl rfl rfl hgr hr e1 e2⟩) ?_ ⟨hVI, hVl, hVd⟩) ?_
  · rintro pre x W0 W ⟨hi0, _, _⟩ ⟨hi, hl, hk⟩ hkc hok
    obtain ⟨U, hU⟩ : ∃ U, U = W.putObj (D + 1) (.loop { rec .ready none with state := .busy }) := ⟨_, rfl⟩
    have hy := run_yield (P := P) (args := encs x) hl (by rw [hrec]; exact hps x)
    rw [hrec] at hy
    have hbeg : (Instr.beginRound (D + 1)).run P W = .ok () U := by rw [hU]; exact run_beginRound hl (by rw [hrec])
    refine ⟨fn, _, assign, body, hy, roundIn_of_wpIn hfn (hassign _ x W _ ⟨U, hbeg, ?_⟩)⟩
    have hUl : U.heap[D + 1]? = some (.loop { rec .ready none with state := .busy }) := by rw [hU]; exact World.putObj_heap_same (Array.getElem?_eq_some_iff.1 hl).1
    have hUd : U.heap[D]? = some (.deferred (some [])) := by rw [hU]; exact (World.putObj_heap_other (by omega)).trans hk
    have hUK : Kp W U := by rw [hU]; exact hKb _ _ _ _ (by omega) hl rfl rfl
    have hUI : I pre U := by rw [hU]; exact hI.putObj _ hi (by omega) hl rfl
    have hUC : KeptC W0 U := by rw [hU]; exact hkc.put _ _ hl rfl
    have hUO : Ok pre x W0 U := by rw [hU]; exact hOk _ _ _ _ _ _ _ hok hl rfl
    clear hU hbeg
    refine wpIn_mono (hbody _ pre x W0 U hi0 hUI hUC hUO) ?_
    -- the round's end
    have fin : ∀ (j : Option Code) (X : World), KeepsFrom w.heap.size U X → ∃ Y, Y = X.putObj (D + 1) (.loop (rec (if j.isNone then .ready else .done) j)) ∧
        (Instr.endRound (D + 1) j).run P X = .ok (.bool j.isNone) Y ∧ X.heap[D + 1]? = some (.loop { rec .ready none with state := .busy }) ∧ Y.heap[D + 1]? = some (.loop (rec (if j.isNone then .ready else .done) j)) ∧ Y.heap[D]? = some (.deferred (some [])) := by
      intro j X hX
      have e1 := hX.same _ _ (by omega) hUl rfl
      have e2 := hX.same _ _ hDw hUd rfl
      have hr := run_endRound (P := P) j e1
      rw [hrec] at hr
      refine ⟨_, rfl, ?_, e1, World.putObj_heap_same (Array.getElem?_eq_some_iff.1 e1).1, (World.putObj_heap_other (by omega)).trans e2⟩
      rw [hrec]
      exact hr
    have leave : ∀ (c : Code) (X : World), KeepsFrom w.heap.size U X → Ix c (pre ++ [x]) X → ∃ Y, (Instr.endRound (D + 1) (some c)).run P X = .ok (.bool false) Y ∧ Ix c (pre ++ [x]) Y ∧ Y.heap[D + 1]? = some (.loop (rec .done (some c))) ∧ Y.heap[D]? = some (.deferred (some [])) := by
      intro c X hX hx
      obtain ⟨Y, hY, hr, e0, e1, e2⟩ := fin (some c) X hX
      refine ⟨Y, hr, ?_, e1, e2⟩
      rw [hY]
      exact (hIx c).putObj _ hx (by omega) e0 rfl
    rintro e a3 X hp
    cases e with
    | normal =>
      obtain ⟨hX, hXK, hXI⟩ := hp
      obtain ⟨Y, hY, hr, e0, e1, e2⟩ := fin none X hX
      refine ⟨_, _, hr, .inl ⟨rfl, ⟨?_, e1, e2⟩, ?_⟩⟩
      · rw [hY]; exact hI.putObj _ hXI (by omega) e0 rfl
      · rw [hY]; exact hKt (hKt hUK hXK) (hKb _ _ _ _ (by omega) e0 rfl rfl)
    | ret => obtain ⟨Y, hr, h2, h3, h4⟩ := leave .ret X hp.1 hp.2; exact ⟨_, _, hr, .inr ⟨rfl, .ret, h2, h3, h4⟩⟩
    | exit id => obtain ⟨Y, hr, h2, h3, h4⟩ := leave (.exit id) X hp.1 hp.2; exact ⟨_, _, hr, .inr ⟨rfl, .exit id, h2, h3, h4⟩⟩
    | goto t => obtain ⟨Y, hr, h2, h3, h4⟩ := leave (.goto t) X hp.1 hp.2; exact ⟨_, _, hr, .inr ⟨rfl, .goto t, h2, h3, h4⟩⟩
    | panic ch => exact hp.elim
    | outgrown => exact hp.elim
  · rintro e X ⟨⟨v, rfl⟩, (⟨xs, hS, hi, hl, hk⟩ | ⟨pre, hSp, c, hi, hl, hk⟩)⟩
    · have hr := run_endLoop (P := P) hl (by rw [hrec]; simp)
      rw [hrec] at hr
      exact ⟨none, _, hr, hdone _ xs _ hDw hS (hI.putObj _ hi (by omega) hl rfl) ((World.putObj_heap_other (by omega)).trans hk)⟩
    · have hr := run_endLoop (P := P) hl (by rw [hrec]; simp)
      rw [hrec] at hr
      exact ⟨some c, _, hr, hstop _ c pre _ hDw hSp ((hIx c).putObj _ hi (by omega) hl rfl) ((World.putObj_heap_other (by omega)).trans hk)⟩

/-! a region that draws its order, in a round of the wide fence -/

def noDefer (ops : Array Oper) : Bool := ops.all fun o => match o.op with | .defer _ => false | _ => true
theorem noDefer_at {ops : Array Oper} (h : noDefer ops = true) {i : Nat} {o : Oper} (ho : ops[i]? = some o) : ∀ c, o.op ≠ .defer c := by
  intro c e
  obtain ⟨hi, rfl⟩ := Array.getElem?_eq_some_iff.1 ho
  have h' := Array.all_eq_true.1 h i hi
  rw [e] at h'
  cases h'
/-- only the way on -/
def QN (R : Act → World → Prop) : Exit → Act → World → Prop := fun x a w => x = .normal ∧ R a w
theorem not_lets (R : Act → World → Prop) : ¬ LetsOut (QN R) := fun ⟨_, _, h, _⟩ => by cases h
theorem rows_wide {l n : Nat} {P : Program} {row : String} {args : Array Value} {w : World} {R : Value → World → Prop} (h : Rows P row args w R) : RowsIn (Fence.wide.inRound l) n P row args w R :=
  fun c cs _ => let ⟨v, w', r, s⟩ := h c cs; ⟨v, w', r, stepsIn_wide.2 s⟩
theorem calls_wide {l n : Nat} {P : Program} {f : FuncId} {args : Array Value} {w : World} {R : Ending → World → Prop} (h : Calls P f args w R) : CallsIn (Fence.wide.inRound l) n P f args w R :=
  CallsIn.inRound l (callsIn_wide.2 h)
theorem wpOps_in {l n : Nat} {P : Program} {ops : Array Oper} {Q : Exit → Act → World → Prop} (hnd : noDefer ops = true) : ∀ (L : List Nat) (a : Act) (w : World),
    wpOps P ops (QN fun a w => Q .normal a w) L a w → wpOpsIn (Fence.wide.inRound l) n P ops Q L a w
  | [], a, w, h => h.2
  | i :: rest, a, w, h => by
    unfold wpOps at h
    unfold wpOpsIn
    cases ho : ops[i]? with
    | none => simp only [ho] at h ⊢; exact wpOps_in hnd rest a w h
    | some o =>
      simp only [ho] at h ⊢
      by_cases hw : Region.wanted o (yielded ops a.tmps) = true
      · rw [if_pos hw] at h ⊢
        rcases h with h | ⟨_, h⟩
        · refine ⟨fun _ _ => trivial, ?_⟩
          rw [Oper.semAt_eq _ _ _ (noDefer_at hnd ho)]
          unfold Oper.wp at h
          generalize (execOp a.eval o).run P w = r at h ⊢
          cases r with
          | ok x w' =>
            cases x <;> simp only [Oper.upon, Oper.uponIn] at h ⊢
            case value u => exact wpOps_in hnd rest _ _ h
            case skip => exact wpOps_in hnd rest _ _ h
            case defer d => exact wpOps_in hnd rest _ _ h
            case enter f args =>
              refine ⟨fun e => (by cases e), calls_wide (h.mono fun e w'' he => ?_)⟩
              cases e with
              | returned u => exact wpOps_in hnd rest _ _ he
              | panicked c => cases he.1
              | outgrown => exact absurd he (not_lets _)
            case row row args => exact ⟨fun e => (by cases e), rows_wide (h.mono fun u w'' he => wpOps_in hnd rest _ _ he)⟩
          | halt x w' =>
            cases x <;> simp only [Oper.upon, Oper.uponIn] at h ⊢
            case panic u => cases h.1
        · exact absurd h (not_lets _)
      · rw [if_neg hw] at h ⊢
        exact ⟨fun _ _ => trivial, wpOps_in hnd rest _ _ h⟩
theorem wpIn_any {l n : Nat} {P : Program} {ops : Array Oper} {Q : Exit → Act → World → Prop} {id : Nat} {a : Act} {w : World} (hnd : noDefer ops = true) (hm : P.follows .mixedOrders = true)
    (h : wpAny P .any ops (QN fun a w => Q .normal a w) ops.size (Array.replicate ops.size false) a w.drew) : (Code.region id ops true).wpIn (Fence.wide.inRound l) n P Q a w := by
  refine wpIn_region_draw fun t => wpOps_in hnd _ _ _ ?_
  simp only [Region.schedule, hm, Bool.true_or, if_true]
  exact wpAny_sound ops.size t _ a _ h
theorem wpIn_regionX (S : World → Prop) (L : Nat) {l n : Nat} {P : Program} {ops : Array Oper} {Q : Exit → Act → World → Prop} {id : Nat} {a : Act} {w : World} (hnd : noDefer ops = true) (hm : P.follows .mixedOrders = true) (hS : S w.drew)
    (h : wpX P .any ops (QN fun a w => Q .normal a w) L ops.size S (Array.replicate ops.size false) a) : (Code.region id ops true).wpIn (Fence.wide.inRound l) n P Q a w :=
  wpIn_any hnd hm (wpX_any _ _ _ _ _ h hS)

end Go.Proofs.Ythemlaibjchjpaa
/- octet.Chunks and the function that it gives. -/
namespace Go.Proofs.Ythemlaibjchjpaa
open Go.RowKit Go.Shelf
attribute [local go_sem] Oper.semAt_some

/-- the pieces of a list, of Z + 1 bytes each, with their places -/
def chs (Z : Nat) (p : Nat) (l : List UInt8) : List (Nat × List UInt8) :=
  match l with
  | [] => []
  | x :: t => (p, (x :: t).take (Z + 1)) :: chs Z (p + min (Z + 1) (t.length + 1)) (t.drop Z)
termination_by l.length
decreasing_by simp; omega
theorem chs_nil (Z p : Nat) : chs Z p [] = [] := by rw [chs]
theorem chs_cons {Z p : Nat} {l : List UInt8} (h : l ≠ []) : chs Z p l = (p, l.take (Z + 1)) :: chs Z (p + min (Z + 1) l.length) (l.drop (Z + 1)) := by
  cases l with
  | nil => exact absurd rfl h
  | cons x t => rw [chs]; simp
/-- .. of a size -/
def chL (z : Int) (l : List UInt8) : List (Nat × List UInt8) := if z < 1 then [] else chs (z.toNat - 1) 0 l
/-- what came of a list of pieces -/
def flt (ps : List (Nat × List UInt8)) : List UInt8 := (ps.map (·.2)).flatten
theorem flt_nil : flt [] = [] := rfl
theorem flt_cons (x : Nat × List UInt8) (ps : List (Nat × List UInt8)) : flt (x :: ps) = x.2 ++ flt ps := by simp [flt]
theorem flt_app (ps qs : List (Nat × List UInt8)) : flt (ps ++ qs) = flt ps ++ flt qs := by simp [flt]
theorem flt_chs (Z : Nat) : ∀ (N p : Nat) (l : List UInt8), l.length ≤ N → flt (chs Z p l) = l := by
  intro N
  induction N with
  | zero => intro p l h; obtain rfl : l = [] := List.eq_nil_of_length_eq_zero (by omega); rw [chs_nil]; rfl
  | succ N ih =>
    intro p l h
    by_cases h0 : l = []
    · subst h0; rw [chs_nil]; rfl
    · rw [chs_cons h0, flt_cons, ih _ _ (by rw [List.length_drop]; omega)]
      exact List.take_append_drop _ _
/-- each piece stands where those ahead of it end -/
theorem chs_at (Z : Nat) : ∀ (ps : List (Nat × List UInt8)) (p t : Nat) (b : List UInt8) (r : List (Nat × List UInt8)) (l : List UInt8), ps ++ (t, b) :: r = chs Z p l → t = p + (flt ps).length
  | [], p, t, b, r, l, h => by
    by_cases h0 : l = []
    · subst h0; rw [chs_nil] at h; cases h
    · rw [chs_cons h0] at h
      simp only [List.nil_append, List.cons.injEq, Prod.mk.injEq] at h
      rw [h.1.1]; rfl
  | y :: ps, p, t, b, r, l, h => by
    by_cases h0 : l = []
    · subst h0; rw [chs_nil] at h; cases h
    · rw [chs_cons h0] at h
      simp only [List.cons_append, List.cons.injEq] at h
      have := chs_at Z ps _ t b r _ h.2
      rw [flt_cons, h.1, List.length_append, List.length_take, this]
      show _ = p + (min (Z + 1) l.length + (flt ps).length)
      omega

/-- a piece as it is told -/
structure Pce where
  at_ : Nat
  sl : Sl
  b : List UInt8
def Pce.vals (x : Pce) : Array Value := #[.int .i64 (x.at_ : Int), x.sl.val]
def Pce.pr (x : Pce) : Nat × List UInt8 := (x.at_, x.b)

/-- what the function that is given back holds -/
structure Chk (w : World) (B b1 b2 : Nat) (z : Int) (ao : Option Addr) (n co : Nat) (l : List UInt8) : Prop where
  size : Row w b1 3 #[.int .i64 z]
  box : Row w b2 22 #[.slice ao n co]
  own : BOwn w B ao n co l
  above : B ≤ b1 ∧ B ≤ b2
/-- its blocks -/
def Chk.S (b1 b2 : Nat) (ao : Option Addr) (co : Nat) (k : Nat) : Prop := k = b1 ∨ k = b2 ∨ In ao co k
/-- these lie as they lay -/
structure KeptS (S : Nat → Prop) (W W' : World) : Prop where
  size : W.heap.size ≤ W'.heap.size
  same : ∀ k, S k → k < W.heap.size → W'.heap[k]? = W.heap[k]?
theorem KeptS.refl (S : Nat → Prop) (W : World) : KeptS S W W := ⟨Nat.le_refl _, fun _ _ _ => rfl⟩
theorem KeptS.trans {S : Nat → Prop} {A B C : World} (h : KeptS S A B) (k : KeptS S B C) : KeptS S A C :=
  ⟨Nat.le_trans h.size k.size, fun i hi hl => (k.same i hi (Nat.lt_of_lt_of_le hl h.size)).trans (h.same i hi hl)⟩
theorem KeptS.of {S : Nat → Prop} {A B : World} (h : A.grownBy B none) : KeptS S A B := ⟨h.size, fun k _ hl => h.block k hl (by simp)⟩
theorem KeptS.put {S : Nat → Prop} (W : World) (l : Nat) (o' : Obj) (h : ¬ S l) : KeptS S W (W.putObj l o') :=
  ⟨(grownBy_putObj' W l o').size, fun k hk hl => World.putObj_heap_other (fun e => h (by first | exact e ▸ hk | exact e.symm ▸ hk))⟩
theorem KeptS.ch {S : Nat → Prop} {A B : World} {T : Nat → Prop} (h : Ch T A B) (hd : ∀ k, S k → ¬ T k) : KeptS S A B := ⟨h.size, fun k hk hl => h.block k hl (hd k hk)⟩
theorem Chk.kept {w w' : World} {B b1 b2 : Nat} {z : Int} {ao : Option Addr} {n co : Nat} {l : List UInt8} (h : Chk w B b1 b2 z ao n co l) (hk : KeptS (Chk.S b1 b2 ao co) w w') : Chk w' B b1 b2 z ao n co l :=
  ⟨(hk.same b1 (.inl rfl) h.size.lt).trans h.size, (hk.same b2 (.inr (.inl rfl)) h.box.lt).trans h.box, Own.kept' h.own fun h0 g e hl => hk.same g (.inr (.inr ⟨h0, e⟩)) hl, h.above⟩
theorem Chk.lt {w : World} {B b1 b2 : Nat} {z : Int} {ao : Option Addr} {n co : Nat} {l : List UInt8} (h : Chk w B b1 b2 z ao n co l) {k : Nat} (hk : Chk.S b1 b2 ao co k) : B ≤ k ∧ k < w.heap.size := by
  rcases hk with rfl | rfl | hk
  · exact ⟨h.above.1, h.size.lt⟩
  · exact ⟨h.above.2, h.box.lt⟩
  · exact Own.inn h.own hk

/-- what a round is told -/
structure ChOk (all : List (Nat × List UInt8)) (pre : List Pce) (x : Pce) (W0 W1 : World) : Prop where
  at_ : ∃ r, pre.map Pce.pr ++ x.pr :: r = all
  own : BOwn W1 W0.heap.size x.sl.a x.sl.n x.sl.c x.b
theorem ChOk.put {all : List (Nat × List UInt8)} {pre : List Pce} {x : Pce} {W0 W : World} (h : ChOk all pre x W0 W) (l : Nat) {o : Obj} (o' : Obj) (hl : W.heap[l]? = some o) (ho : o.isCells = false) : ChOk all pre x W0 (W.putObj l o') := by
  refine ⟨h.at_, ?_⟩
  rcases h.own.2 with h0 | ⟨g, cur, ha, hb, hh, rest⟩
  · exact ⟨h.own.1, .inl h0⟩
  · refine ⟨h.own.1, .inr ⟨g, cur, ha, hb, ?_, rest⟩⟩
    have hne : l ≠ g := fun e => by subst e; rw [hl] at hh; injection hh with hh; subst hh; cases ho
    first | exact (World.putObj_heap_other hne).trans hh | exact (World.putObj_heap_other hne.symm).trans hh

set_option maxRecDepth 100000 in
set_option maxHeartbeats 4000000 in
theorem chunks_n (a : Option Addr) (c n : Nat) (z : Int) (l : List UInt8) (w : World) (ha : BLies w a l) (hl : l.length = n) (hn : n ≤ 4000000100) :
    Calls Try.prog 15 #[.slice a n c, .int .i64 z] w fun e w' => ∃ b1 b2 ao co, e = .returned (.func (.func 61) #[] #[.pointer (some ⟨b1, 0, none⟩), .pointer (some ⟨b2, 0, none⟩)]) ∧
      Chk w' w.heap.size b1 b2 z ao n co l ∧ w.grownBy w' none := by
  obtain ⟨il, hi, hz, hsz, _⟩ := info_parts (show (Try.prog.info? 22).map (fun i => (i.zero, i.size, i.bytes)) = some (some (.slice none 0 0), 1, 24) by kernel_rfl)
  have HA := Lib.hid ha
  have HL := Lib.hid hl
  clear ha hl
  go_enter Try.func15, Try.ntmps15
  go_upto_region 1 with (refine wpList_box1 rfl rfl (.int .i64 z) rfl rfl ?_; intro W1 hs1 hg1 hr1; have HG1 := Lib.hid hg1; have HR1 := Lib.hid hr1; clear hs1 hg1 hr1)
  go_wp2_with (first | (go_at_call 60; refine (clone_n a c n l _ (HA.out.grown HG1.out) HL.out hn).mono ?_; rintro e W2 ⟨ao, co, rfl, ho, hg⟩; have HO := Lib.hid ho; have HG2 := Lib.hid hg; clear ho hg) | (refine wpList_fresh1 rfl rfl rfl rfl rfl hi hz hsz rfl (.slice ao n co) rfl rfl rfl ?_; intro W3 hs3 hg3 hr3; have HG3 := Lib.hid hg3; have HR3 := Lib.hid hr3; clear hs3 hg3 hr3))
  go_ret
  have h1 := HR1.out
  have h2 := HO.out
  have h3 := HR3.out
  have g1 := HG1.out
  have g2 := HG2.out
  have g3 := HG3.out
  exact ⟨_, _, ao, co, rfl, ⟨Row.grown (Row.grown h1 g2) g3, h3, BOwn.grown (BOwn.mono h2 g1.size) g3, Nat.le_refl _, Nat.le_trans g1.size g2.size⟩, grownBy_trans (grownBy_trans g1 g2) g3⟩

end Go.Proofs.Ythemlaibjchjpaa
/- The document's Chunks. Printed by gens/octrefch.py. -/
namespace Go.Proofs.Ythemlaibjchjpaa
open Go.RowKit

def plN (ps : List (Nat × List UInt8)) : List Int := ps.map (fun x => (x.1 : Int))
def plB (ps : List (Nat × List UInt8)) : List (List UInt8) := ps.map (·.2)
theorem LIs.grewE {w w' : World} {base base' e' size' : Nat} {a a' a2 : Option Addr} {n n' c c' c2 : Nat} {bs : List (List UInt8)} {L : List Sl} {ys : List Value} (h : LIs w base a n c bs L) (h' : Own w base' e' size' a' n' c' ys) (hg : GrewP w w' a' c' a2 c2) (h1 : 22 ≠ e') (h2 : 5 ≠ e') : LIs w' base a n c bs L :=
  ⟨Own.grewOther h.outer h' hg h1, h.len, fun i k1 k2 => Own.grewOther (h.inner i k1 k2) h' hg h2, h.apart⟩
theorem i64_natC (x : Nat) (h : x < 9223372036854775808) : IntKind.i64.wrap (x : Int) = (x : Int) := IntWalk.i64_in _ (by omega)
set_option maxRecDepth 100000 in
set_option maxHeartbeats 4000000 in
theorem refChunks_n (a : Option Addr) (c n : Nat) (z : Int) (hz64 : z ≤ 9223372036854775807) (l : List UInt8) (w : World) (ha : BLies w a l) (hl : l.length = n) (hnc : n ≤ c) (hn : n ≤ 100000) :
    Calls Try.prog 13 #[.slice a n c, .int .i64 z] w fun e w' => ∃ k pa pc qa qc L, e = .returned (.tuple #[.slice pa k pc, .slice qa k qc]) ∧ k ≤ n ∧ IOwn w' w.heap.size pa k pc (plN (chL z l)) ∧ LIs w' w.heap.size qa k qc (plB (chL z l)) L ∧ w.grownBy w' none := by
  have HA := Lib.hid ha
  have HL := Lib.hid hl
  clear ha hl
  go_enter Try.func13, Try.ntmps13
  by_cases hz : z < 1
  · have hch : chL z l = [] := if_pos hz
    have hd : decide (z < 1) = true := by simpa using hz
    rw [hch]
    go_wp2_with fail
    go_ret2
    exact ⟨0, _, _, _, _, [], rfl, Nat.zero_le _, Own.nil _ _ _ _ _, ⟨Own.nil _ _ _ _ _, rfl, fun i h => by simp at h, fun i j h => by simp at h⟩, World.grownBy.refl _ _⟩
  · obtain ⟨s, rfl⟩ : ∃ s : Nat, z = (s : Int) := ⟨z.toNat, by omega⟩
    have hs1 : 1 ≤ s := by omega
    have hd : decide ((s : Int) < 1) = false := by simp; omega
    have hch : chL (s : Int) l = chs (s - 1) 0 l := by
      unfold chL
      rw [if_neg (by omega)]
      congr 1
    obtain ⟨all, hall⟩ : ∃ all, all = chL (s : Int) l := ⟨_, rfl⟩
    obtain ⟨Z, hZ⟩ : ∃ Z, Z = s - 1 := ⟨_, rfl⟩
    rw [← hall]
    rw [← hall, ← hZ] at hch
    have HCH := Lib.hid hch
    have HZ := Lib.hid hZ
    clear hch hz hZ hall
    go_wp2_with fail
    go_loopw [6, 7, 8] (fun vp vq vi wr => ∃ (i k : Nat) (pa : Option Addr) (pc : Nat) (qa : Option Addr) (qc : Nat) (L : List Sl) (pre : List (Nat × List UInt8)), i ≤ n ∧ k ≤ i ∧ vi = .int .i64 i ∧ vp = .slice pa k pc ∧ vq = .slice qa k qc ∧
      Hid (pre ++ chs Z i (l.drop i) = all) ∧ IOwn wr w.heap.size pa k pc (plN pre) ∧ LIs wr w.heap.size qa k qc (plB pre) L ∧ w.grownBy wr none) (fun _ _ vi _ => n - (intOf vi).toNat)
    case atStart => exact ⟨0, 0, none, 0, none, 0, [], [], Nat.zero_le _, Nat.le_refl _, rfl, rfl, rfl, Lib.hid (by rw [HCH.out]; simp), Own.nil _ _ _ _ _, ⟨Own.nil _ _ _ _ _, rfl, fun i h => by simp at h, fun i j h => by simp at h⟩, World.grownBy.refl _ _⟩
    case round =>
      obtain ⟨i, k, pa, pc, qa, qc, L, pre, hi, hki, rfl, rfl, rfl, HP, hpo, hqo, hg⟩ := hrel
      have HPO := Lib.hid hpo
      have HQO := Lib.hid hqo
      have HG := Lib.hid hg
      clear hpo hqo hg
      by_cases hlt : i < n
      · have hdl : (l.drop i).length = n - i := by rw [List.length_drop, HL.out]
        have hne : l.drop i ≠ [] := fun e => by rw [e] at hdl; simp at hdl; omega
        obtain ⟨mm, hmm⟩ : ∃ mm, mm = min s (n - i) := ⟨_, rfl⟩
        have hm1 : 1 ≤ mm := by omega
        have hm2 : i + mm ≤ n := by omega
        have hp2 := HP.out
        rw [chs_cons hne, hdl, HZ.out, show s - 1 + 1 = s by omega, ← hmm, List.drop_drop] at hp2
        have ht : (l.drop i).take s = (l.drop i).take mm := by
          rw [hmm]
          rcases Nat.lt_or_ge s (n - i) with h | h
          · rw [Nat.min_eq_left (by omega)]
          · rw [Nat.min_eq_right h, List.take_of_length_le (by omega), List.take_of_length_le (by omega)]
        have hdd : l.drop (i + s) = l.drop (i + mm) := by
          rcases Nat.lt_or_ge s (n - i) with h | h
          · rw [hmm, Nat.min_eq_left (by omega)]
          · rw [List.drop_eq_nil_of_le (by rw [HL.out]; omega), List.drop_eq_nil_of_le (by rw [HL.out]; omega)]
        rw [ht, hdd, ← HZ.out] at hp2
        have HP2 := Lib.hid hp2
        obtain ⟨t, htt⟩ : ∃ t, t = (l.drop i).take mm := ⟨_, rfl⟩
        rw [← htt] at HP2
        have hml := mid_lies (HA.out.grown HG.out) i mm c (by rw [HL.out]; exact hm2) (by rw [HL.out]; exact hnc)
        have hmn := mid_len (l := l) (f := i) (r := mm) (by rw [HL.out]; exact hm2)
        rw [← htt] at hml hmn
        obtain ⟨a3, c3, w3, hrun, ho3, hch3, _⟩ := run_appB wr (show BOwn wr wr.heap.size none 0 0 [] from Own.nil _ _ _ _ _) (midA a i c) mm (c - i) t hml hmn (by omega) (Nat.le_refl _) 22
        rw [Nat.zero_add, List.nil_append] at ho3
        rw [Nat.zero_add] at hrun
        have g3 : wr.grownBy w3 none := Ch.fresh (World.grownBy.refl wr none) hch3 (fun g hg h => absurd h.1 (by omega))
        have HRUN := Lib.hid hrun
        have HO3 := Lib.hid ho3
        have HG3 := Lib.hid g3
        have HGW3 := Lib.hid (grownBy_trans HG.out g3)
        have HMS := Lib.hid hmm
        obtain ⟨q, hqq⟩ : ∃ q : Nat, q = n - i := ⟨_, rfl⟩
        have hwq : IntKind.i64.wrap ((n : Int) - (i : Int)) = (q : Int) := by rw [IntWalk.i64_in _ (by omega)]; omega
        have hwi : IntKind.i64.wrap ((i : Int) + (mm : Int)) = ((i + mm : Nat) : Int) := by rw [IntWalk.i64_in _ (by omega)]; omega
        clear hp2 ht hdd hml hmn htt hrun ho3 hch3 g3 hne hdl
        have hd2 : decide ((i : Int) < (n : Int)) = true := by simp; omega
        have hd3 : decide (i < n) = true := by simp; omega
        have fin : ∀ (g4 : Nat) (c4 : Nat) (w4 : World) (g5 c5 : Nat) (w5 : World), Own w4 w.heap.size 3 1 (some ⟨g4, 0, none⟩) (k + 1) c4 (IV (plN pre) ++ [.int .i64 (i : Int)]) → GrewP w3 w4 pa pc (some ⟨g4, 0, none⟩) c4 →
            Own w5 w.heap.size 22 1 (some ⟨g5, 0, none⟩) (k + 1) c5 (L.map Sl.val ++ [.slice a3 mm c3]) → GrewP w4 w5 qa qc (some ⟨g5, 0, none⟩) c5 →
            IOwn w5 w.heap.size (some ⟨g4, 0, none⟩) (k + 1) c4 (plN (pre ++ [(i, t)])) ∧ LIs w5 w.heap.size (some ⟨g5, 0, none⟩) (k + 1) c5 (plB (pre ++ [(i, t)])) (L ++ [⟨a3, mm, c3⟩]) ∧ w.grownBy w5 none := by
          intro g4 c4 w4 g5 c5 w5 h4 hg4 h5 hg5
          have hP3 : IOwn w3 w.heap.size pa k pc (plN pre) := Own.grownNone HPO.out HG3.out
          have hg4w : w.grownBy w4 none := hg4.grew.grown hP3 HGW3.out (Nat.le_refl _)
          have hQ3 : LIs w3 w.heap.size qa k qc (plB pre) L := HQO.out.grown HG3.out
          have hQ4 : LIs w4 w.heap.size qa k qc (plB pre) L := hQ3.grewE hP3 hg4 (by decide) (by decide)
          have hO4 : BOwn w4 wr.heap.size a3 mm c3 t := Own.grewOther HO3.out hP3 hg4 (by decide)
          have hQ5 := LIs.pushC HQO.out HG.out.size hQ4 hO4 h5 hg5
          have hg5w : w.grownBy w5 none := hg5.grew.grown hQ4.outer hg4w (Nat.le_refl _)
          refine ⟨?_, ?_, hg5w⟩
          · have h := Own.grewOther h4 hQ4.outer hg5 (by decide)
            show Own _ _ _ _ _ _ _ (IV (plN (pre ++ [(i, t)])))
            rw [show IV (plN (pre ++ [(i, t)])) = IV (plN pre) ++ [.int .i64 (i : Int)] by simp [IV, plN]]
            exact h
          · rw [show plB (pre ++ [(i, t)]) = plB pre ++ [t] by simp [plB]]
            exact hQ5
        have HFIN := Lib.hid fin
        have hwv : wr.heap.size ≤ w3.heap.size := HG3.out.size
        have hP3 := Lib.hid (show IOwn w3 w.heap.size pa k pc (plN pre) from Own.grownNone HPO.out HG3.out)
        have hQ3 := Lib.hid (HQO.out.grown HG3.out)
        clear fin
        have ARM : True := trivial
        rcases Nat.lt_or_ge s q with hq | hq
        · have he : mm = s := by omega
          have hgt : decide ((s : Int) < (q : Int)) = true := decide_eq_true (by omega)
          have hgt2 : decide (s < q) = true := decide_eq_true hq
          clear hmm hqq
          subst he
          go_upto_region 14 with (first
            | ((with_reducible show wpList _ _ _ ({ dst := some 31, op := _, type := _, pos := _, after := _, guard := _ } :: _) _ _); refine wpList_valp rfl (run_mid_op2 _ _ (.tmp 26) (.tmp 27) (.tmp 30) rfl a n c i mm rfl rfl rfl (by omega)) ?_)
            | ((with_reducible show wpList _ _ _ ({ dst := some 32, op := _, type := _, pos := _, after := _, guard := _ } :: _) _ _); refine Lib.wpList_append_run _ rfl (.tmp 25) (.tmp 31) 22 22 rfl _ _ rfl rfl _ _ HRUN.out ?_)
            | ((with_reducible show wpList _ _ _ ({ dst := some 36, op := _, type := _, pos := _, after := _, guard := _ } :: _) _ _); refine wpList_push elI rfl (.tmp 33) (.tmp 35) rfl rfl hP3.out (.int .i64 (i : Int)) rfl rfl (by unfold maxLen; omega) (by omega) (Nat.le_trans HG.out.size hwv) ?_; intro g4 c4 w4 hown4 hgr4; have HO4 := Lib.hid hown4; have HGR4 := Lib.hid hgr4; have HZ4 := Lib.hid hgr4.ch.size; clear hown4 hgr4)
            | ((with_reducible show wpList _ _ _ ({ dst := some 40, op := _, type := _, pos := _, after := _, guard := _ } :: _) _ _); refine wpList_push elS rfl (.tmp 37) (.tmp 39) rfl rfl (hQ3.out.grewE hP3.out HGR4.out (by decide) (by decide)).outer (.slice a3 mm c3) rfl rfl (by unfold maxLen; omega) (by omega) (Nat.le_trans (Nat.le_trans HG.out.size hwv) HZ4.out) ?_; intro g5 c5 w5 hown5 hgr5; have HO5 := Lib.hid hown5; have HGR5 := Lib.hid hgr5; clear hown5 hgr5))
          go_wp2_with fail
          go_roundw
          case rel =>
            obtain ⟨f1, f2, f3⟩ := HFIN.out g4 c4 w4 g5 c5 w5 HO4.out HGR4.out HO5.out HGR5.out
            exact ⟨i + mm, k + 1, _, _, _, _, _, _, hm2, by omega, by first | rfl | go_num, rfl, rfl, Lib.hid (by rw [List.append_assoc]; exact HP2.out), f1, f2, f3⟩
          case measure => simp [intOf]; omega
        · have he : mm = q := by omega
          have hgt : decide ((s : Int) < (q : Int)) = false := decide_eq_false (by omega)
          have hgt2 : decide (s < q) = false := decide_eq_false (by omega)
          clear hmm hqq
          subst he
          go_upto_region 14 with (first
            | ((with_reducible show wpList _ _ _ ({ dst := some 31, op := _, type := _, pos := _, after := _, guard := _ } :: _) _ _); refine wpList_valp rfl (run_mid_op2 _ _ (.tmp 26) (.tmp 27) (.tmp 30) rfl a n c i mm rfl rfl rfl (by omega)) ?_)
            | ((with_reducible show wpList _ _ _ ({ dst := some 32, op := _, type := _, pos := _, after := _, guard := _ } :: _) _ _); refine Lib.wpList_append_run _ rfl (.tmp 25) (.tmp 31) 22 22 rfl _ _ rfl rfl _ _ HRUN.out ?_)
            | ((with_reducible show wpList _ _ _ ({ dst := some 36, op := _, type := _, pos := _, after := _, guard := _ } :: _) _ _); refine wpList_push elI rfl (.tmp 33) (.tmp 35) rfl rfl hP3.out (.int .i64 (i : Int)) rfl rfl (by unfold maxLen; omega) (by omega) (Nat.le_trans HG.out.size hwv) ?_; intro g4 c4 w4 hown4 hgr4; have HO4 := Lib.hid hown4; have HGR4 := Lib.hid hgr4; have HZ4 := Lib.hid hgr4.ch.size; clear hown4 hgr4)
            | ((with_reducible show wpList _ _ _ ({ dst := some 40, op := _, type := _, pos := _, after := _, guard := _ } :: _) _ _); refine wpList_push elS rfl (.tmp 37) (.tmp 39) rfl rfl (hQ3.out.grewE hP3.out HGR4.out (by decide) (by decide)).outer (.slice a3 mm c3) rfl rfl (by unfold maxLen; omega) (by omega) (Nat.le_trans (Nat.le_trans HG.out.size hwv) HZ4.out) ?_; intro g5 c5 w5 hown5 hgr5; have HO5 := Lib.hid hown5; have HGR5 := Lib.hid hgr5; clear hown5 hgr5))
          go_wp2_with fail
          go_roundw
          case rel =>
            obtain ⟨f1, f2, f3⟩ := HFIN.out g4 c4 w4 g5 c5 w5 HO4.out HGR4.out HO5.out HGR5.out
            exact ⟨i + mm, k + 1, _, _, _, _, _, _, hm2, by omega, by first | rfl | go_num, rfl, rfl, Lib.hid (by rw [List.append_assoc]; exact HP2.out), f1, f2, f3⟩
          case measure => simp [intOf]; omega
      · obtain rfl : i = n := by omega
        have hd2 : decide ((i : Int) < (i : Int)) = false := by simp
        have he : pre = all := by
          have h := HP.out
          rw [List.drop_of_length_le (by rw [HL.out]; exact Nat.le_refl _), chs_nil, List.append_nil] at h
          exact h
        subst he
        go_wp2_with fail
        go_ret2
        exact ⟨k, _, _, _, _, L, rfl, hki, HPO.out, HQO.out, HG.out⟩
end Go.Proofs.Ythemlaibjchjpaa
/- The function that octet.Chunks gives: what it tells. -/
namespace Go.Proofs.Ythemlaibjchjpaa
open Go.RowKit Go.Shelf
attribute [local go_sem] Oper.semAt_some

set_option maxRecDepth 100000 in
set_option maxHeartbeats 400000 in
theorem chunks1_in (m : Nat) (B b1 b2 : Nat) (z : Int) (ao : Option Addr) (n co : Nat) (l : List UInt8) (w : World) (hc : Chk w B b1 b2 z ao n co l) (hn : n ≤ 4000000000) :
    SeqOk Fence.wide m Try.prog 61 #[.pointer (some ⟨b1, 0, none⟩), .pointer (some ⟨b2, 0, none⟩)] Pce.vals (KeptS (Chk.S b1 b2 ao co)) (ChOk (chL z l))
      (fun xs => xs.map Pce.pr = chL z l) (fun pre => ∃ r, pre.map Pce.pr ++ r = chL z l) w := by
  intro lp J Jx W hW hJ hJx hY h0
  have HC : Hid (Chk W B b1 b2 z ao n co l) := Lib.hid (hc.kept ⟨hW.size, fun k hk hl => hW.block k hl⟩)
  have HY := Lib.hid hY
  have HJ := Lib.hid hJ
  have HJ0 := Lib.hid h0
  have HLN := Lib.hid (BOwn.len hc.own)
  clear hW hc hY hJ hJx h0
  have c1 := Row.cell HC.out.size 0
  have c2 := Row.cell HC.out.box 0
  simp at c1 c2
  refine callsIn_of_wp Try.func61 rfl trivial ?_ rfl
  simp only [Try.ntmps61, List.size_toArray, List.length_cons, List.length_nil, Nat.reduceAdd, Nat.reduceSub, Array.replicate_succ, Array.replicate_zero, List.push_toArray, List.append_toArray, List.nil_append, List.cons_append]
  by_cases hz : z < 1
  · have hch : chL z l = [] := if_pos hz
    have hd : decide (z < 1) = true := by simpa using hz
    gi_wp2
    refine bodyPost_ret (results_none rfl _ _ _) rfl ?_
    exact ⟨⟨_, rfl⟩, .inl ⟨[], by rw [hch]; rfl, HJ0.out⟩⟩
  · obtain ⟨s, rfl⟩ : ∃ s : Nat, z = (s : Int) := ⟨z.toNat, by omega⟩
    have hs1 : 1 ≤ s := by omega
    have hd : decide ((s : Int) < 1) = false := by simp; omega
    have hch : chL (s : Int) l = chs (s - 1) 0 l := by
      unfold chL
      rw [if_neg (by omega)]
      congr 1
    obtain ⟨all, hall⟩ : ∃ all, all = chL (s : Int) l := ⟨_, rfl⟩
    obtain ⟨Z, hZ⟩ : ∃ Z, Z = s - 1 := ⟨_, rfl⟩
    rw [← hall] at HY ⊢
    rw [← hall, ← hZ] at hch
    have HCH := Lib.hid hch
    have HZ := Lib.hid hZ
    clear hch hz hZ hall
    gi_wp2
    clear c1 c2
    gi_loopw [4] (fun vp wr => ∃ (p : Nat) (pre : List Pce), p ≤ n ∧ vp = .int .i64 p ∧ J pre wr ∧ Chk wr B b1 b2 (s : Int) ao n co l ∧ Hid (pre.map Pce.pr ++ chs Z p (l.drop p) = all))
      (fun vp _ => n - (intOf vp).toNat)
    case atStart => exact ⟨0, [], Nat.zero_le _, rfl, HJ0.out, HC.out, Lib.hid (by rw [HCH.out]; simp)⟩
    case round =>
      obtain ⟨p, pre, hp, rfl, hj, hc, HP⟩ := hrel
      have HJ1 := Lib.hid hj
      replace HC := Lib.hid hc
      have c1 := Row.cell hc.size 0
      have c2 := Row.cell hc.box 0
      have hcap := hc.own.cap
      simp at c1 c2
      clear hj hc
      by_cases hlt : p < n
      · obtain ⟨g, rfl, hg1, hg2⟩ := Own.block HC.out.own (by omega)
        have hdl : (l.drop p).length = n - p := by rw [List.length_drop, HLN.out]
        have hne : l.drop p ≠ [] := fun e => by rw [e] at hdl; simp at hdl; omega
        obtain ⟨mm, hmm⟩ : ∃ mm, mm = min s (n - p) := ⟨_, rfl⟩
        have hm1 : 1 ≤ mm := by omega
        have hm2 : p + mm ≤ n := by omega
        have hp2 := HP.out
        rw [chs_cons hne, hdl, HZ.out, show s - 1 + 1 = s by omega, ← hmm, List.drop_drop] at hp2
        have ht : (l.drop p).take s = (l.drop p).take mm := by
          rw [hmm]
          rcases Nat.lt_or_ge s (n - p) with h | h
          · rw [Nat.min_eq_left (by omega)]
          · rw [Nat.min_eq_right h, List.take_of_length_le (by omega), List.take_of_length_le (by omega)]
        have hdd : l.drop (p + s) = l.drop (p + mm) := by
          rcases Nat.lt_or_ge s (n - p) with h | h
          · rw [hmm, Nat.min_eq_left (by omega)]
          · rw [List.drop_eq_nil_of_le (by rw [HLN.out]; omega), List.drop_eq_nil_of_le (by rw [HLN.out]; omega)]
        rw [ht, hdd, ← HZ.out] at hp2
        have HP2 := Lib.hid hp2
        have hbl : BLies wr (some ⟨g, 0 + p, none⟩) (l.drop p) := drop_lies (BOwn.lies HC.out.own) p
        rw [Nat.zero_add] at hbl
        have HBL := Lib.hid (hbl.take mm)
        have hbn : ((l.drop p).take mm).length = mm := by rw [List.length_take, hdl]; omega
        have HBN := Lib.hid hbn
        have HM := Lib.hid hmm
        have hcp : p < co := by omega
        have hcs : co - p ≠ 0 := by omega
        have HWP : Hid (wrap64 ((p : Int) + (mm : Int)) = ((p + mm : Nat) : Int)) := by
          unfold Hid
          rw [IntWalk.wrap64_in _ (by omega)]; omega
        obtain ⟨q, hqq⟩ : ∃ q : Nat, q = n - p := ⟨_, rfl⟩
        have HW : Hid (IntKind.i64.wrap ((n : Int) - (p : Int)) = (q : Int)) := by
          unfold Hid
          rw [IntWalk.i64_in _ (by omega)]; omega
        have hd2 : decide ((p : Int) < (n : Int)) = true := by simp; omega
        have hd3 : decide (p < n) = true := by simp; omega
        clear hp2 ht hdd hbl hbn hne hdl
        rcases Nat.lt_or_ge q s with hq | hq
        · have he : mm = q := by omega
          have hlq : (q : Int) < (s : Int) := by omega
          have hw := HW.out
          have hwp := HWP.out
          have hpm : p + mm - p = mm := Nat.add_sub_cancel_left _ _
          clear hmm hqq hq HW HWP
          subst he
          gi_wp2_with (refine ⟨trivial, fun h => (by cases h), ?_⟩; gi_at_call 60; refine (callsIn_wide.2 (clone_n _ _ mm _ wr HBL.out HBN.out (by omega))).mono ?_; rintro e w1 ⟨a1, c1', rfl, ho, hg⟩; have HO := Lib.hid ho; have HG := Lib.hid hg; have HY1 := Lib.hid (HY.out pre ⟨p, ⟨a1, mm, c1'⟩, (l.drop p).take mm⟩ wr w1 HJ1.out (HJ.out pre wr w1 none HJ1.out hg (fun r e => by cases e)) (KeptC.of hg) ⟨⟨_, HP2.out⟩, ho⟩); clear ho hg; obtain ⟨fn, tmps, assign, body, hy, hR⟩ := HY1.out; have HR := Lib.hid hR; clear hR; dsimp only [Pce.vals, Sl.val] at hy)
          clear hw
          refine ⟨fun h => (by cases h), HR.out.mono ?_⟩
          rintro e W3 (⟨rfl, hJ3, hk3⟩ | ⟨rfl, hJx3⟩)
          · have HJ3 := Lib.hid hJ3
            have hc3 := (HC.out.kept (KeptS.of HG.out)).kept hk3
            have HC3 := Lib.hid hc3
            clear hJ3 hk3 hc3
            gi_wp2
            clear hwp hpm hlq hcs hcp hcap hd hd2 hd3
            refine ⟨⟨p + mm, _, hm2, by simp, HJ3.out, HC3.out, Lib.hid (by rw [List.map_append, List.append_assoc]; exact HP2.out)⟩, ?_⟩
            simp only [intOf]
            omega
          · have HJ3 := Lib.hid hJx3
            clear hJx3
            gi_wp2
            refine bodyPost_ret (results_none rfl _ _ _) rfl ?_
            exact ⟨⟨_, rfl⟩, .inr ⟨_, ⟨_, by rw [List.map_append, List.append_assoc]; exact HP2.out⟩, HJ3.out⟩⟩
        · have he : mm = s := by omega
          have hlq : ((q : Int) < (s : Int)) = False := eq_false (by omega)
          have hlq2 : (q < s) = False := eq_false (by omega)
          have hw : (n : Int) - (p : Int) = (q : Int) := by omega
          have hwp := HWP.out
          have hpm : p + mm - p = mm := Nat.add_sub_cancel_left _ _
          clear hmm hqq hq HW HWP
          subst he
          gi_wp2_with (refine ⟨trivial, fun h => (by cases h), ?_⟩; gi_at_call 60; refine (callsIn_wide.2 (clone_n _ _ mm _ wr HBL.out HBN.out (by omega))).mono ?_; rintro e w1 ⟨a1, c1', rfl, ho, hg⟩; have HO := Lib.hid ho; have HG := Lib.hid hg; have HY1 := Lib.hid (HY.out pre ⟨p, ⟨a1, mm, c1'⟩, (l.drop p).take mm⟩ wr w1 HJ1.out (HJ.out pre wr w1 none HJ1.out hg (fun r e => by cases e)) (KeptC.of hg) ⟨⟨_, HP2.out⟩, ho⟩); clear ho hg; obtain ⟨fn, tmps, assign, body, hy, hR⟩ := HY1.out; have HR := Lib.hid hR; clear hR; dsimp only [Pce.vals, Sl.val] at hy)
          clear hw
          refine ⟨fun h => (by cases h), HR.out.mono ?_⟩
          rintro e W3 (⟨rfl, hJ3, hk3⟩ | ⟨rfl, hJx3⟩)
          · have HJ3 := Lib.hid hJ3
            have hc3 := (HC.out.kept (KeptS.of HG.out)).kept hk3
            have HC3 := Lib.hid hc3
            clear hJ3 hk3 hc3
            gi_wp2
            clear hwp hpm hlq hcs hcp hcap hd hd2 hd3
            refine ⟨⟨p + mm, _, hm2, by simp, HJ3.out, HC3.out, Lib.hid (by rw [List.map_append, List.append_assoc]; exact HP2.out)⟩, ?_⟩
            simp only [intOf]
            omega
          · have HJ3 := Lib.hid hJx3
            clear hJx3
            gi_wp2
            refine bodyPost_ret (results_none rfl _ _ _) rfl ?_
            exact ⟨⟨_, rfl⟩, .inr ⟨_, ⟨_, by rw [List.map_append, List.append_assoc]; exact HP2.out⟩, HJ3.out⟩⟩
      · obtain rfl : p = n := by omega
        have hpe := HP.out
        rw [List.drop_eq_nil_of_le (by rw [HLN.out]; exact Nat.le_refl _), chs_nil, List.append_nil] at hpe
        have HPE := Lib.hid hpe
        clear hpe
        gi_wp2
        go_end0
        exact ⟨⟨_, rfl⟩, .inl ⟨pre, HPE.out, HJ1.out⟩⟩

end Go.Proofs.Ythemlaibjchjpaa
/- Plain regions in a round of the wide fence; what cells that lay kept; lists collected in a round. -/
namespace Go.Proofs.Ythemlaibjchjpaa
open Go.RowKit Go.Shelf

theorem wpListIn_of {l n : Nat} {P : Program} {ops : Array Oper} {Q : Exit → Act → World → Prop} : ∀ (L : List Oper) (a : Act) (w : World), (∀ o ∈ L, ∀ c, o.op ≠ .defer c) →
    wpList P ops (QN fun a w => Q .normal a w) L a w → wpListIn (Fence.wide.inRound l) n P ops Q L a w
  | [], a, w, _, h => h.2
  | o :: rest, a, w, hd, h => by
    unfold wpList at h
    unfold wpListIn
    have hr : ∀ o ∈ rest, ∀ c, o.op ≠ .defer c := fun x hx => hd x (List.mem_cons_of_mem _ hx)
    by_cases hw : Region.wanted o (yielded ops a.tmps) = true
    · rw [if_pos hw] at h ⊢
      rcases h with h | ⟨_, h⟩
      · refine ⟨fun _ _ => trivial, ?_⟩
        rw [Oper.semAt_eq _ _ _ (hd o (List.mem_cons_self ..))]
        unfold Oper.wp at h
        generalize (execOp a.eval o).run P w = r at h ⊢
        cases r with
        | ok x w' =>
          cases x <;> simp only [Oper.upon, Oper.uponIn] at h ⊢
          case value u => exact wpListIn_of rest _ _ hr h
          case skip => exact wpListIn_of rest _ _ hr h
          case defer d => exact wpListIn_of rest _ _ hr h
          case enter f args =>
            refine ⟨fun e => (by cases e), calls_wide (h.mono fun e w'' he => ?_)⟩
            cases e with
            | returned u => exact wpListIn_of rest _ _ hr he
            | panicked c => cases he.1
            | outgrown => exact absurd he (not_lets _)
          case row row args => exact ⟨fun e => (by cases e), rows_wide (h.mono fun u w'' he => wpListIn_of rest _ _ hr he)⟩
        | halt x w' =>
          cases x <;> simp only [Oper.upon, Oper.uponIn] at h ⊢
          case panic u => cases h.1
      · exact absurd h (not_lets _)
    · rw [if_neg hw] at h ⊢
      exact ⟨fun _ _ => trivial, wpListIn_of rest _ _ hr h⟩
/-- a plain region, by the plain walk -/
theorem wpIn_regionP {l n : Nat} {P : Program} {L : List Oper} {Q : Exit → Act → World → Prop} {id : Nat} {a : Act} {w : World} (hnd : noDefer L.toArray = true)
    (h : wpList P L.toArray (QN fun a w => Q .normal a w) L a w) : (Code.region id L.toArray false).wpIn (Fence.wide.inRound l) n P Q a w := by
  refine wpIn_region_lit (wpListIn_of L a w (fun o ho c e => ?_) h)
  obtain ⟨i, hi, rfl⟩ := List.getElem_of_mem ho
  exact noDefer_at hnd (i := i) (by simp [hi]) c e

theorem Row.keptC {A B : World} {g : Nat} {t : TypeId} {cs : Array Value} (h : Row A g t cs) (hk : KeptC A B) : Row B g t cs := hk.same g _ h rfl
theorem Own.keptC {A B : World} {base : Nat} {e : TypeId} {size : Nat} {a : Option Addr} {n c : Nat} {xs : List Value} (h : Own A base e size a n c xs) (hk : KeptC A B) : Own B base e size a n c xs := by
  refine ⟨h.1, ?_⟩
  rcases h.2 with h0 | ⟨g, cur, ha, hb, hh, rest⟩
  · exact .inl h0
  · exact .inr ⟨g, cur, ha, hb, hk.same g _ hh rfl, rest⟩
theorem LIs.keptC {A B : World} {base : Nat} {a : Option Addr} {n c : Nat} {bs : List (List UInt8)} {L : List Sl} (h : LIs A base a n c bs L) (hk : KeptC A B) : LIs B base a n c bs L :=
  ⟨Own.keptC h.outer hk, h.len, fun i h1 h2 => Own.keptC (h.inner i h1 h2) hk, h.apart⟩
theorem LIs.nc {A B : World} {row : Option Nat} {b0 : Nat} {base : Nat} {a : Option Addr} {n c : Nat} {bs : List (List UInt8)} {L : List Sl} (h : LIs A base a n c bs L) (hg : A.grownBy B row) (hr : ∀ r, row = some r → b0 ≤ r ∧ ∃ o : Obj, A.heap[r]? = some o ∧ o.isCells = false) : LIs B base a n c bs L := by
  have hk : KeptC A B := ⟨hg.size, fun k o hko hoc => (hg.block k (Array.getElem?_eq_some_iff.1 hko).1 (fun e => by
    obtain ⟨_, o', ho', hc'⟩ := hr k e.symm
    rw [hko] at ho'
    injection ho' with ho'
    subst ho'
    rw [hoc] at hc'
    cases hc')).trans hko⟩
  exact h.keptC hk

/-- one list more, made since the others -/
theorem LIs.pushK {w w1 w2 : World} {base : Nat} {a : Option Addr} {n c : Nat} {bs : List (List UInt8)} {L : List Sl} (h : LIs w base a n c bs L) (hb : base ≤ w.heap.size) (hg : KeptC w w1)
    {a' : Option Addr} {n' c' : Nat} {b : List UInt8} (ho : BOwn w1 w.heap.size a' n' c' b) {a2 : Option Addr} {c2 : Nat}
    (hs : Own w2 base 22 1 a2 (n + 1) c2 (L.map Sl.val ++ [.slice a' n' c'])) (hgr : GrewP w1 w2 a c a2 c2) : LIs w2 base a2 (n + 1) c2 (bs ++ [b]) (L ++ [⟨a', n', c'⟩]) := by
  obtain ⟨h1, h2, h3, h4⟩ := h
  have h1' : SOwn w1 base a n c L := Own.keptC h1 hg
  have hin : ∀ i (h : i < L.length) (h' : i < bs.length), BOwn w2 base (L[i]).a (L[i]).n (L[i]).c bs[i] := fun i h h' => Own.grewOther (Own.keptC (h3 i h h') hg) h1' hgr (by decide)
  have hnew : BOwn w2 base a' n' c' b := Own.grewOther (ho.mono hb) h1' hgr (by decide)
  refine ⟨?_, by simp [h2], ?_, ?_⟩
  · unfold SOwn; rw [List.map_append]; exact hs
  · intro i hi hi'
    by_cases e : i < L.length
    · have e' : i < bs.length := by omega
      rw [List.getElem_append_left e, List.getElem_append_left e']
      exact hin i e e'
    · simp only [List.length_append, List.length_singleton] at hi
      obtain rfl : i = L.length := by omega
      have e2 : (L ++ [⟨a', n', c'⟩])[L.length] = (⟨a', n', c'⟩ : Sl) := by simp
      have e3 : (bs ++ [b])[L.length] = b := by simp [h2]
      rw [e2, e3]
      exact hnew
  · have old : ∀ i (hi : i < L.length) g, (L[i]).blk = some g → g < w.heap.size := by
      intro i hi g hgb
      have hbo := h3 i hi (by omega)
      obtain ⟨hc, ha⟩ := hbo.blk hgb
      obtain ⟨g', ha', _, hlt⟩ := Own.block hbo hc
      rw [ha] at ha'
      obtain rfl : g = g' := by simpa using ha'
      exact hlt
    have new : ∀ g, (⟨a', n', c'⟩ : Sl).blk = some g → w.heap.size ≤ g := by
      intro g hgb
      have hbo : BOwn w1 w.heap.size (⟨a', n', c'⟩ : Sl).a (⟨a', n', c'⟩ : Sl).n (⟨a', n', c'⟩ : Sl).c b := ho
      obtain ⟨hc, ha⟩ := hbo.blk hgb
      obtain ⟨g', ha', hlt, _⟩ := Own.block hbo hc
      rw [ha] at ha'
      obtain rfl : g = g' := by simpa using ha'
      exact hlt
    intro i j hi hj hij g hgi hgj
    simp only [List.length_append, List.length_singleton] at hi hj
    by_cases ei : i < L.length
    · by_cases ej : j < L.length
      · rw [List.getElem_append_left ei] at hgi
        rw [List.getElem_append_left ej] at hgj
        exact h4 i j ei ej hij g hgi hgj
      · obtain rfl : j = L.length := by omega
        rw [List.getElem_append_left ei] at hgi
        have e2 : (L ++ [⟨a', n', c'⟩])[L.length]'(by simp) = (⟨a', n', c'⟩ : Sl) := by simp
        rw [e2] at hgj
        have := old i ei g hgi
        have := new g hgj
        omega
    · obtain rfl : i = L.length := by omega
      have ej : j < L.length := by omega
      rw [List.getElem_append_left ej] at hgj
      have e2 : (L ++ [⟨a', n', c'⟩])[L.length]'(by simp) = (⟨a', n', c'⟩ : Sl) := by simp
      rw [e2] at hgi
      have := old j ej g hgj
      have := new g hgi
      omega
theorem LIs.lies {w : World} {base : Nat} {a : Option Addr} {n c : Nat} {bs : List (List UInt8)} {L : List Sl} (h : LIs w base a n c bs L) : LLies w a L bs := by
  refine ⟨?_, h.len, fun i h1 h2 => ⟨(h.inner i h1 h2).lies, (h.inner i h1 h2).len.symm⟩⟩
  intro k hk
  obtain ⟨g, e, _, _, hc, _⟩ := Own.cell h.outer k hk
  exact ⟨g, 0, e, by rw [Nat.zero_add, hc]⟩

theorem LIs.chS {w w' : World} {base : Nat} {a : Option Addr} {n c : Nat} {bs : List (List UInt8)} {L : List Sl} {S : Nat → Prop} (h : LIs w base a n c bs L) (hc : Ch S w w') (ho : ∀ g, In a c g → ¬ S g) (hi : ∀ i (hi : i < L.length) g, In (L[i]).a (L[i]).c g → ¬ S g) : LIs w' base a n c bs L :=
  ⟨Own.ch h.outer hc (fun h0 g e => ho g ⟨h0, e⟩), h.len, fun i h1 h2 => Own.ch (h.inner i h1 h2) hc (fun h0 g e => hi i h1 g ⟨h0, e⟩), h.apart⟩

/-- the caller's law, its act behind the assignment told by what is assigned -/
theorem wpIn_rangeOkA {F : Fence} {n : Nat} {P : Program} {α : Type} {g : Operand} {ps : Array Tmp} {assign body : Code} {Q : Exit → Act → World → Prop} {a : Act} {w : World}
    (asg : Array Value → α → Array Value)
    (hro : F.round = none) (h1 : 1 ≤ n) {gf : Nat} {lb : Array Value} (hg : a.eval g = .func (.func gf) #[] lb) (hFg : F.fn gf) (eg : ∀ args w, (callFunc gf args).run P w = .ok (.enter gf args) w)
    {encs : α → Array Value} {Kp : World → World → Prop} {Ok : List α → α → World → World → Prop} {S Sp : List α → Prop} {w0 : World} (hseq : SeqOk F (n - 1) P gf lb encs Kp Ok S Sp w0)
    (hKt : ∀ {A B C : World}, Kp A B → Kp B C → Kp A C) (hKb : ∀ (W : World) (l : Nat) (o o' : Obj), w.heap.size ≤ l → W.heap[l]? = some o → o.isCells = false → o.isWalk = false → Kp W (W.putObj l o'))
    (hOk : ∀ pre x (W0 W : World) (l : Nat) (o o' : Obj), Ok pre x W0 W → W.heap[l]? = some o → o.isCells = false → Ok pre x W0 (W.putObj l o'))
    (hb0 : Below w0.heap.size w0 w) (hps : ∀ x, (encs x).size = ps.size)
    (I : List α → World → Prop) (Ix : Code → List α → World → Prop) (hI : OwnFrom w.heap.size I) (hIx : ∀ c, OwnFrom w.heap.size (Ix c)) (h0 : I [] w)
    (hassign : ∀ (l : Nat) (x : α) (W : World) (K : Act → World → Prop), K { tmps := asg a.tmps x, defers := [] } W →
      assign.wpIn (F.inRound l) (n - 1 - 1) P (Exit.then K (fun _ _ _ => False)) { tmps := (ps.zip (encs x)).foldl (fun t (p, v) => t.setIfInBounds p v) a.tmps, defers := [] } W)
    (hbody : ∀ (l : Nat) (pre : List α) (x : α) (W0 W : World), I pre W0 → I pre W → KeptC W0 W → Ok pre x W0 W → body.wpIn (F.inRound l) (n - 1 - 1) P (ownPostG w.heap.size Kp I Ix (pre ++ [x]) W) { tmps := asg a.tmps x, defers := [] } W)
    (hdone : ∀ (D : Nat) (xs : List α) (W : World), w.heap.size ≤ D → S xs → I xs W → W.heap[D]? = some (.deferred (some [])) → Q .normal { a with defers := { target := .collected D, args := #[] } :: a.defers } W)
    (hstop : ∀ (D : Nat) (c : Code) (pre : List α) (W : World), w.heap.size ≤ D → Sp pre → Ix c pre W → W.heap[D]? = some (.deferred (some [])) → c.wpIn F n P Q { a with defers := { target := .collected D, args := #[] } :: a.defers } W) :
    (Code.rangeFunc g ps assign body).wpIn F n P Q a w :=
  wpIn_rangeOk hro h1 hg hFg eg hseq hKt hKb hOk hb0 hps I Ix hI hIx h0 _ hassign hbody hdone hstop

theorem chs_len (Z : Nat) : ∀ (N p : Nat) (l : List UInt8), l.length ≤ N → (chs Z p l).length ≤ l.length := by
  intro N
  induction N with
  | zero => intro p l h; obtain rfl : l = [] := List.eq_nil_of_length_eq_zero (by omega); rw [chs_nil]; exact Nat.le_refl _
  | succ N ih =>
    intro p l h
    by_cases h0 : l = []
    · subst h0; rw [chs_nil]; exact Nat.le_refl _
    · have hp := List.length_pos_iff.2 h0
      rw [chs_cons h0, List.length_cons]
      have := ih (p + min (Z + 1) l.length) (l.drop (Z + 1)) (by rw [List.length_drop]; omega)
      rw [List.length_drop] at this
      omega
theorem flt_pce (xs : List Pce) : (xs.map Pce.b).flatten = flt (xs.map Pce.pr) := by
  unfold flt
  rw [List.map_map]
  rfl

end Go.Proofs.Ythemlaibjchjpaa
/- The caller's law where the assignment to the loop's variables makes memory. -/
namespace Go.Proofs.Ythemlaibjchjpaa
open Go.RowKit Go.Shelf
variable {F : Fence} {n : Nat} {P : Program}

set_option maxHeartbeats 1000000 in
/-- the caller's law, the assignment making memory -/
theorem wpIn_rangeOkH {α : Type} {g : Operand} {ps : Array Tmp} {assign body : Code} {Q : Exit → Act → World → Prop} {a : Act} {w : World}
    (hro : F.round = none) (h1 : 1 ≤ n) {gf : Nat} {lb : Array Value} (hg : a.eval g = .func (.func gf) #[] lb) (hFg : F.fn gf) (eg : ∀ args w, (callFunc gf args).run P w = .ok (.enter gf args) w)
    {encs : α → Array Value} {Kp : World → World → Prop} {Ok : List α → α → World → World → Prop} {S Sp : List α → Prop} {w0 : World} (hseq : SeqOk F (n - 1) P gf lb encs Kp Ok S Sp w0)
    (hKt : ∀ {A B C : World}, Kp A B → Kp B C → Kp A C) (hKb : ∀ (W : World) (l : Nat) (o o' : Obj), w.heap.size ≤ l → W.heap[l]? = some o → o.isCells = false → o.isWalk = false → Kp W (W.putObj l o'))
    (Ax : List α → α → World → Act → World → Prop) (hAx : ∀ pre x (W0 : World) (a' : Act) (W : World) (l : Nat) (o o' : Obj), Ax pre x W0 a' W → W.heap[l]? = some o → o.isCells = false → Ax pre x W0 a' (W.putObj l o'))
    (hb0 : Below w0.heap.size w0 w) (hps : ∀ x, (encs x).size = ps.size)
    (I : List α → World → Prop) (Ix : Code → List α → World → Prop) (hI : OwnFrom w.heap.size I) (hIx : ∀ c, OwnFrom w.heap.size (Ix c)) (h0 : I [] w)
    (hassign : ∀ (l : Nat) (pre : List α) (x : α) (W0 W : World) (K : Act → World → Prop), I pre W0 → I pre W → KeptC W0 W → Ok pre x W0 W → (∀ (a' : Act) (W' : World), KeepsFrom w.heap.size W W' → Kp W W' → I pre W' → Ax pre x W0 a' W' → K a' W') →
      assign.wpIn (F.inRound l) (n - 1 - 1) P (Exit.then K (fun _ _ _ => False)) { tmps := (ps.zip (encs x)).foldl (fun t (p, v) => t.setIfInBounds p v) a.tmps, defers := [] } W)
    (hbody : ∀ (l : Nat) (pre : List α) (x : α) (W0 : World) (a' : Act) (W : World), I pre W → Ax pre x W0 a' W → body.wpIn (F.inRound l) (n - 1 - 1) P (ownPostG w.heap.size Kp I Ix (pre ++ [x]) W) a' W)
    (hdone : ∀ (D : Nat) (xs : List α) (W : World), w.heap.size ≤ D → S xs → I xs W → W.heap[D]? = some (.deferred (some [])) → Q .normal { a with defers := { target := .collected D, args := #[] } :: a.defers } W)
    (hstop : ∀ (D : Nat) (c : Code) (pre : List α) (W : World), w.heap.size ≤ D → Sp pre → Ix c pre W → W.heap[D]? = some (.deferred (some [])) → c.wpIn F n P Q { a with defers := { target := .collected D, args := #[] } :: a.defers } W) :
    (Code.rangeFunc g ps assign body).wpIn F n P Q a w := by
  refine wpIn_rangeFunc fun fn hfn => ?_
  rw [hro]
  -- D the block for the rounds' deferred calls, R the loop's record
  obtain ⟨D, hD⟩ : ∃ D, D = w.heap.size := ⟨_, rfl⟩
  obtain ⟨rec, hrec⟩ : ∃ rec : LoopState → Option Code → Loop, rec = fun st pe => { state := st, pending := pe, fn, tmps := a.tmps, params := ps, assign, body, defers := D } := ⟨_, rfl⟩
  obtain ⟨V, hV⟩ : ∃ V, V = (w.alloc (.deferred (some []))).alloc (.loop (rec .ready none)) := ⟨_, rfl⟩
  have hsz : V.heap.size = D + 2 := by rw [hV, hD]; simp
  have hrun : (Instr.enterLoop fn a.tmps ps assign body none).run P w = .ok (D + 1, [{ target := .collected D, args := #[] }]) V := by
    rw [hV, hrec, hD]; exact run_enterLoop_outer _ _ _ _ _
  have hVl : V.heap[D + 1]? = some (.loop (rec .ready none)) := by
    have h := World.alloc_heap_new (w.alloc (.deferred (some []))) (.loop (rec .ready none))
    rw [World.size_alloc, ← hD] at h
    rw [hV]; exact h
  have hVd : V.heap[D]? = some (.deferred (some [])) := by
    rw [hV, hD]; exact (Below.heap_alloc _ _ _ (by simp)).trans (World.alloc_heap_new w _)
  have hVI : I [] V := by rw [hV]; exact hI.alloc _ (hI.alloc _ h0)
  have hVb : Below w0.heap.size w0 V := by
    rw [hV]; exact hb0.trans ((((Below.refl _ w).alloc (Nat.le_refl _) _).alloc (by simp) _).mono hb0.size)
  have hDw : w.heap.size ≤ D := by omega
  clear hV
  -- the two facts of the law's own, kept by what turns other blocks
  have two : ∀ {A B : World} {row : Option Nat} (o1 o2 : Obj), o1.isCells = false → o2.isCells = false → o1.isWalk = false → o2.isWalk = false → A.grownBy B row → (∀ r, row = some r → V.heap.size ≤ r ∧ ∃ o : Obj, A.heap[r]? = some o ∧ o.isWalk = true) →
      A.heap[D + 1]? = some o1 → A.heap[D]? = some o2 → B.heap[D + 1]? = some o1 ∧ B.heap[D]? = some o2 := by
    intro A B row o1 o2 _ _ _ _ hgr hr e1 e2
    have ne : ∀ k, k < V.heap.size → row ≠ some k := fun k hk e => by have := (hr k e).1; omega
    have h1 := (Array.getElem?_eq_some_iff.1 e1).1
    have h2 := (Array.getElem?_eq_some_iff.1 e2).1
    exact ⟨(hgr.block _ h1 (Ne.symm (ne (D + 1) (by omega)))).trans e1, (hgr.block _ h2 (Ne.symm (ne D (by omega)))).trans e2⟩
  have nw : ∀ {A : World} {row : Option Nat}, (∀ r, row = some r → V.heap.size ≤ r ∧ ∃ o : Obj, A.heap[r]? = some o ∧ o.isWalk = true) → (∀ r, row = some r → w.heap.size ≤ r ∧ ∃ o : Obj, A.heap[r]? = some o ∧ o.isCells = false) :=
    fun hr r e => by obtain ⟨hB, o, ho, hw⟩ := hr r e; exact ⟨by omega, o, ho, Obj.not_cells_of_walk hw⟩
  refine ⟨D + 1, _, V, { target := .fn (.func gf) lb, args := #[.func (.yield (D + 1)) #[] #[]] }, V, gf, #[.func (.yield (D + 1)) #[] #[]] ++ lb, V, hrun, ?_, ?_, ?_, fun _ => h1, ?_⟩
  · simp only [resolve, hg]
    simp [go_sem]
  · intro f' hf'
    simp [Target.leads] at hf'
    subst hf'
    exact hFg
  · simp [invoke, go_sem, eg]
  refine CallsIn.mono (hseq (D + 1) (fun pre W => I pre W ∧ W.heap[D + 1]? = some (.loop (rec .ready none)) ∧ W.heap[D]? = some (.deferred (some [])))
    (fun pre W => ∃ c, Ix c pre W ∧ W.heap[D + 1]? = some (.loop (rec .done (some c))) ∧ W.heap[D]? = some (.deferred (some []))) V hVb
    (fun s A B row hs hgr hr => ⟨hI s A B row hs.1 hgr (nw hr), two _ _ rfl rfl rfl rfl hgr hr hs.2.1 hs.2.2⟩)
    (fun s A B row ⟨c, hc, e1, e2⟩ hgr hr => ⟨c, hIx c s A B row hc hgr (nw hr), two _ _ rfl rfl rfl rfl hgr hr e1 e2⟩) ?_ ⟨hVI, hVl, hVd⟩) ?_
  · rintro pre x W0 W ⟨hi0, _, _⟩ ⟨hi, hl, hk⟩ hkc hok
    have hy := run_yield (P := P) (args := encs x) hl (by rw [hrec]; exact hps x)
    rw [hrec] at hy
    refine ⟨fn, _, assign, body, hy, roundIn_of_wpIn hfn (hassign _ pre x W0 W _ hi0 hi hkc hok (fun a' W' hkf hkp hi' hax => ?_))⟩
    have hl2 : W'.heap[D + 1]? = some (.loop (rec .ready none)) := hkf.same _ _ (by omega) hl (by rw [hrec]; rfl)
    have hk2 := hkf.same _ _ hDw hk rfl
    obtain ⟨U, hU⟩ : ∃ U, U = W'.putObj (D + 1) (.loop { rec .ready none with state := .busy }) := ⟨_, rfl⟩
    have hbeg : (Instr.beginRound (D + 1)).run P W' = .ok () U := by rw [hU]; exact run_beginRound hl2 (by rw [hrec])
    refine ⟨U, hbeg, ?_⟩
    have hUl : U.heap[D + 1]? = some (.loop { rec .ready none with state := .busy }) := by rw [hU]; exact World.putObj_heap_same (Array.getElem?_eq_some_iff.1 hl2).1
    have hUd : U.heap[D]? = some (.deferred (some [])) := by rw [hU]; exact (World.putObj_heap_other (by omega)).trans hk2
    have hUK : Kp W U := hKt hkp (by rw [hU]; exact hKb _ _ _ _ (by omega) hl2 (by rw [hrec]; rfl) (by rw [hrec]; rfl))
    have hUI : I pre U := by rw [hU]; exact hI.putObj _ hi' (by omega) hl2 (by rw [hrec]; rfl)
    have hUA : Ax pre x W0 a' U := by rw [hU]; exact hAx _ _ _ _ _ _ _ _ hax hl2 (by rw [hrec]; rfl)
    clear hU hbeg
    refine wpIn_mono (hbody _ pre x W0 a' U hUI hUA) ?_
    -- the round's end
    have fin : ∀ (j : Option Code) (X : World), KeepsFrom w.heap.size U X → ∃ Y, Y = X.putObj (D + 1) (.loop (rec (if j.isNone then .ready else .done) j)) ∧
        (Instr.endRound (D + 1) j).run P X = .ok (.bool j.isNone) Y ∧ X.heap[D + 1]? = some (.loop { rec .ready none with state := .busy }) ∧ Y.heap[D + 1]? = some (.loop (rec (if j.isNone then .ready else .done) j)) ∧ Y.heap[D]? = some (.deferred (some [])) := by
      intro j X hX
      have e1 := hX.same _ _ (by omega) hUl rfl
      have e2 := hX.same _ _ hDw hUd rfl
      have hr := run_endRound (P := P) j e1
      rw [hrec] at hr
      refine ⟨_, rfl, ?_, e1, World.putObj_heap_same (Array.getElem?_eq_some_iff.1 e1).1, (World.putObj_heap_other (by omega)).trans e2⟩
      rw [hrec]
      exact hr
    have leave : ∀ (c : Code) (X : World), KeepsFrom w.heap.size U X → Ix c (pre ++ [x]) X → ∃ Y, (Instr.endRound (D + 1) (some c)).run P X = .ok (.bool false) Y ∧ Ix c (pre ++ [x]) Y ∧ Y.heap[D + 1]? = some (.loop (rec .done (some c))) ∧ Y.heap[D]? = some (.deferred (some [])) := by
      intro c X hX hx
      obtain ⟨Y, hY, hr, e0, e1, e2⟩ := fin (some c) X hX
      refine ⟨Y, hr, ?_, e1, e2⟩
      rw [hY]
      exact (hIx c).putObj _ hx (by omega) e0 rfl
    rintro e a3 X hp
    cases e with
    | normal =>
      obtain ⟨hX, hXK, hXI⟩ := hp
      obtain ⟨Y, hY, hr, e0, e1, e2⟩ := fin none X hX
      refine ⟨_, _, hr, .inl ⟨rfl, ⟨?_, e1, e2⟩, ?_⟩⟩
      · rw [hY]; exact hI.putObj _ hXI (by omega) e0 rfl
      · rw [hY]; exact hKt (hKt hUK hXK) (hKb _ _ _ _ (by omega) e0 rfl rfl)
    | ret => obtain ⟨Y, hr, h2, h3, h4⟩ := leave .ret X hp.1 hp.2; exact ⟨_, _, hr, .inr ⟨rfl, .ret, h2, h3, h4⟩⟩
    | exit id => obtain ⟨Y, hr, h2, h3, h4⟩ := leave (.exit id) X hp.1 hp.2; exact ⟨_, _, hr, .inr ⟨rfl, .exit id, h2, h3, h4⟩⟩
    | goto t => obtain ⟨Y, hr, h2, h3, h4⟩ := leave (.goto t) X hp.1 hp.2; exact ⟨_, _, hr, .inr ⟨rfl, .goto t, h2, h3, h4⟩⟩
    | panic ch => exact hp.elim
    | outgrown => exact hp.elim
  · rintro e X ⟨⟨v, rfl⟩, (⟨xs, hS, hi, hl, hk⟩ | ⟨pre, hSp, c, hi, hl, hk⟩)⟩
    · have hr := run_endLoop (P := P) hl (by rw [hrec]; simp)
      rw [hrec] at hr
      exact ⟨none, _, hr, hdone _ xs _ hDw hS (hI.putObj _ hi (by omega) hl rfl) ((World.putObj_heap_other (by omega)).trans hk)⟩
    · have hr := run_endLoop (P := P) hl (by rw [hrec]; simp)
      rw [hrec] at hr
      exact ⟨some c, _, hr, hstop _ c pre _ hDw hSp ((hIx c).putObj _ hi (by omega) hl rfl) ((World.putObj_heap_other (by omega)).trans hk)⟩


/-- .. what is told of the act behind the assignment told by the act ahead -/
theorem wpIn_rangeOkHA {α : Type} {g : Operand} {ps : Array Tmp} {assign body : Code} {Q : Exit → Act → World → Prop} {a : Act} {w : World}
    (hro : F.round = none) (h1 : 1 ≤ n) {gf : Nat} {lb : Array Value} (hg : a.eval g = .func (.func gf) #[] lb) (hFg : F.fn gf) (eg : ∀ args w, (callFunc gf args).run P w = .ok (.enter gf args) w)
    {encs : α → Array Value} {Kp : World → World → Prop} {Ok : List α → α → World → World → Prop} {S Sp : List α → Prop} {w0 : World} (hseq : SeqOk F (n - 1) P gf lb encs Kp Ok S Sp w0)
    (hKt : ∀ {A B C : World}, Kp A B → Kp B C → Kp A C) (hKb : ∀ (W : World) (l : Nat) (o o' : Obj), w.heap.size ≤ l → W.heap[l]? = some o → o.isCells = false → o.isWalk = false → Kp W (W.putObj l o'))
    (Ax : Array Value → List α → α → World → Act → World → Prop) (hAx : ∀ t pre x (W0 : World) (a' : Act) (W : World) (l : Nat) (o o' : Obj), Ax t pre x W0 a' W → W.heap[l]? = some o → o.isCells = false → Ax t pre x W0 a' (W.putObj l o'))
    (hb0 : Below w0.heap.size w0 w) (hps : ∀ x, (encs x).size = ps.size)
    (I : List α → World → Prop) (Ix : Code → List α → World → Prop) (hI : OwnFrom w.heap.size I) (hIx : ∀ c, OwnFrom w.heap.size (Ix c)) (h0 : I [] w)
    (hassign : ∀ (l : Nat) (pre : List α) (x : α) (W0 W : World) (K : Act → World → Prop), I pre W0 → I pre W → KeptC W0 W → Ok pre x W0 W → (∀ (a' : Act) (W' : World), KeepsFrom w.heap.size W W' → Kp W W' → I pre W' → Ax a.tmps pre x W0 a' W' → K a' W') →
      assign.wpIn (F.inRound l) (n - 1 - 1) P (Exit.then K (fun _ _ _ => False)) { tmps := (ps.zip (encs x)).foldl (fun t (p, v) => t.setIfInBounds p v) a.tmps, defers := [] } W)
    (hbody : ∀ (l : Nat) (pre : List α) (x : α) (W0 : World) (a' : Act) (W : World), I pre W → Ax a.tmps pre x W0 a' W → body.wpIn (F.inRound l) (n - 1 - 1) P (ownPostG w.heap.size Kp I Ix (pre ++ [x]) W) a' W)
    (hdone : ∀ (D : Nat) (xs : List α) (W : World), w.heap.size ≤ D → S xs → I xs W → W.heap[D]? = some (.deferred (some [])) → Q .normal { a with defers := { target := .collected D, args := #[] } :: a.defers } W)
    (hstop : ∀ (D : Nat) (c : Code) (pre : List α) (W : World), w.heap.size ≤ D → Sp pre → Ix c pre W → W.heap[D]? = some (.deferred (some [])) → c.wpIn F n P Q { a with defers := { target := .collected D, args := #[] } :: a.defers } W) :
    (Code.rangeFunc g ps assign body).wpIn F n P Q a w :=
  wpIn_rangeOkH hro h1 hg hFg eg hseq hKt hKb (Ax a.tmps) (hAx a.tmps) hb0 hps I Ix hI hIx h0 hassign hbody hdone hstop

end Go.Proofs.Ythemlaibjchjpaa
/- What turns of blocks that are no cells leave. (The head of octet.Xor's text.) -/
namespace Go.Proofs.Ythemlaibjchjpaa
open Go.RowKit Go.Shelf
attribute [local go_sem] Oper.semAt_some

/-- a contract from a body that ranges over a function; the walk is the plain one -/
theorem calls_of_wp_marks {P : Program} {f : FuncId} {fn : Func} {c : Code} {args : Array Value} {w : World} {R : Ending → World → Prop} (hf : P.funcs[f]? = some fn) (hb : fn.body = some c)
    (h : c.wp P (bodyPostM Fence.wide 3 P fn R) { tmps := args ++ Array.replicate (fn.ntmps - args.size) undef, defers := [] } w) : Calls P f args w R :=
  (callsIn_wide (n := 3)).1 (callsIn_of_wp_marks hf hb trivial (wpIn_wide.2 h) rfl)
/-- what a turn of another block, no cells, leaves -/
theorem Row.nc {A B : World} {g : Nat} {t : TypeId} {cs : Array Value} {row : Option Nat} {b0 : Nat} (h : Row A g t cs) (hg : A.grownBy B row) (hr : ∀ r, row = some r → b0 ≤ r ∧ ∃ o : Obj, A.heap[r]? = some o ∧ o.isCells = false) : Row B g t cs := by
  refine (hg.block g h.lt (fun e => ?_)).trans h
  obtain ⟨_, o, ho, hc⟩ := hr g e.symm
  have h' : A.heap[g]? = some (.cells cs t (0, 0)) := h
  rw [h'] at ho
  injection ho with ho
  subst ho
  cases hc
theorem Own.nc {A B : World} {base : Nat} {e : TypeId} {size : Nat} {a : Option Addr} {n c : Nat} {xs : List Value} {row : Option Nat} {b0 : Nat} (h : Own A base e size a n c xs) (hg : A.grownBy B row) (hr : ∀ r, row = some r → b0 ≤ r ∧ ∃ o : Obj, A.heap[r]? = some o ∧ o.isCells = false) : Own B base e size a n c xs := by
  refine ⟨h.1, ?_⟩
  rcases h.2 with h0 | ⟨g, cur, ha, hb, hh, rest⟩
  · exact .inl h0
  · exact .inr ⟨g, cur, ha, hb, Row.nc (show Row A g e cur from hh) hg hr, rest⟩
theorem grown_nc {w A B : World} {row : Option Nat} {b0 : Nat} (h : w.grownBy A none) (hg : A.grownBy B row) (hb : w.heap.size ≤ b0) (hr : ∀ r, row = some r → b0 ≤ r ∧ ∃ o : Obj, A.heap[r]? = some o ∧ o.isCells = false) : w.grownBy B none :=
  grownBy_none (grownBy_trans (grownBy_some h row) hg) (fun g e => Nat.le_trans hb (hr g e).1)
/-- no cells lie as they lay where cells alone were changed -/
theorem KeepsFrom.ch {A B : World} {S : Nat → Prop} {b0 : Nat} (h : Ch S A B) (hS : ∀ k, S k → ∃ cs t m, A.heap[k]? = some (.cells cs t m)) : KeepsFrom b0 A B :=
  ⟨h.size, fun k o _ hk ho => (h.block k (Array.getElem?_eq_some_iff.1 hk).1 (fun hs => by
    obtain ⟨cs, t, m, e⟩ := hS k hs
    rw [e] at hk
    injection hk with hk
    subst hk
    cases ho)).trans hk⟩
theorem Own.cellsAt {w : World} {base : Nat} {e : TypeId} {size : Nat} {a : Option Addr} {n c : Nat} {xs : List Value} (h : Own w base e size a n c xs) {g : Nat} (hi : In a c g) : ∃ cs t m, w.heap[g]? = some (.cells cs t m) := by
  obtain ⟨hc, ha⟩ := hi
  rcases h.2 with ⟨_, h0⟩ | ⟨g', cur, ha', _, hh, _⟩
  · omega
  · rw [ha] at ha'
    injection ha' with ha'; injection ha' with ha'
    subst ha'
    exact ⟨_, _, _, hh⟩
theorem Own.adr {w : World} {base : Nat} {e : TypeId} {a : Option Addr} {n c : Nat} {xs : List Value} (h : Own w base e 1 a n c xs) (hn : 0 < n) : ∃ g, a = some ⟨g, 0, none⟩ ∧ In a c g := by
  rcases h.2 with ⟨h0, _⟩ | ⟨g, cur, ha, _, _, hnc, _⟩
  · omega
  · exact ⟨g, ha, by omega, ha⟩

end Go.Proofs.Ythemlaibjchjpaa
