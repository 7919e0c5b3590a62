/- Helpers and contracts of the proofs over this seat: Iter, Chunks, Iter2, CtrIter, CtrMath, Iter3, Chunks1, Xor, CtrStream. Each states what a function of the program answers, or is plain Lean; its conditions stand in each statement. -/
import Derived.RangeFuncNested
import Derived.RangeFuncBound
import Derived.RangeFuncCalls
import Derived.RangeFuncLeaves
import Derived.Shelf.Abstract
import Derived.Shelf.RegionOpen
import Derived.WalkKit
import Derived.OwnWalkIn
import Derived.TacticsInMore
import Derived.LoopNIn
import Derived.LoopIn
import Derived.Laws.BitsAllLaws
import Derived.Laws.CopyOwn
import Derived.Test.YtblgdfamomlklaaPtAA
import Derived.Test.YtblgdfamomlklaaPtAB
import Derived.Test.YtblgdfamomlklaaPtAC
import Derived.Test.YtblgdfamomlklaaPtAD
set_option linter.unusedVariables false
/- A range over a function whose iterator makes memory for what it tells: the round is told what lies in that memory. And: a region that draws its order, in a round. -/
namespace Go.Proofs.Ytblgdfamomlklaa
open Go.RowKit Go.Shelf

/-- cells that lay lie as they lay -/
structure KeptC (W W' : World) : Prop where
  size : W.heap.size ≤ W'.heap.size
  same : ∀ (k : Nat) (o : Obj), W.heap[k]? = some o → o.isCells = true → W'.heap[k]? = some o
theorem KeptC.refl (W : World) : KeptC W W := ⟨Nat.le_refl _, fun _ _ h _ => h⟩
theorem KeptC.put {W W' : World} (h : KeptC W W') (l : Nat) {o : Obj} (o' : Obj) (hl : W'.heap[l]? = some o) (ho : o.isCells = false) : KeptC W (W'.putObj l o') :=
  ⟨Nat.le_trans h.size (grownBy_putObj' W' l o').size, fun k o2 hk h2 => by
    have h3 := h.same k o2 hk h2
    by_cases e : k = l
    · subst e; rw [hl] at h3; injection h3 with h3; subst h3; rw [ho] at h2; cases h2
    · exact (World.putObj_heap_other (by omega)).trans h3⟩
theorem KeptC.of {W W' : World} (h : W.grownBy W' none) : KeptC W W' := ⟨h.size, fun k o hk _ => (h.block k (Array.getElem?_eq_some_iff.1 hk).1 (by simp)).trans hk⟩

/-- what an iterator does that tells each round what it has made for it: W0 the world ahead of the making, W1 behind -/
def SeqOk {α : Type} (F : Fence) (n : Nat) (P : Program) (g : Nat) (lb : Array Value) (encs : α → Array Value) (Kp : World → World → Prop) (Ok : List α → α → World → World → Prop) (S Sp : List α → Prop) (w : World) : Prop :=
  ∀ (l : Nat) (J Jx : List α → World → Prop) (W : World), Below w.heap.size w W → AbidesFrom W.heap.size J → AbidesFrom W.heap.size Jx →
    (∀ pre x W0 W1, J pre W0 → J pre W1 → KeptC W0 W1 → Ok pre x W0 W1 → YieldAt F (n - 1) P l (encs x) W1 fun e W' =>
      (e = .returned (.bool true) ∧ J (pre ++ [x]) W' ∧ Kp W1 W') ∨ (e = .returned (.bool false) ∧ Jx (pre ++ [x]) W')) →
    J [] W →
    CallsIn F n P g (#[.func (.yield l) #[] #[]] ++ lb) W fun e W' => (∃ v, e = .returned v) ∧ ((∃ xs, S xs ∧ J xs W') ∨ (∃ pre, Sp pre ∧ Jx pre W'))

variable {F : Fence} {n : Nat} {P : Program}

set_option maxHeartbeats 1000000 in
/-- the caller's law -/
theorem wpIn_rangeOk {α : Type} {g : Operand} {ps : Array Tmp} {assign body : Code} {Q : Exit → Act → World → Prop} {a : Act} {w : World}
    (hro : F.round = none) (h1 : 1 ≤ n) {gf : Nat} {lb : Array Value} (hg : a.eval g = .func (.func gf) #[] lb) (hFg : F.fn gf) (eg : ∀ args w, (callFunc gf args).run P w = .ok (.enter gf args) w)
    {encs : α → Array Value} {Kp : World → World → Prop} {Ok : List α → α → World → World → Prop} {S Sp : List α → Prop} {w0 : World} (hseq : SeqOk F (n - 1) P gf lb encs Kp Ok S Sp w0)
    (hKt : ∀ {A B C : World}, Kp A B → Kp B C → Kp A C) (hKb : ∀ (W : World) (l : Nat) (o o' : Obj), w.heap.size ≤ l → W.heap[l]? = some o → o.isCells = false → o.isWalk = false → Kp W (W.putObj l o'))
    (hOk : ∀ pre x (W0 W : World) (l : Nat) (o o' : Obj), Ok pre x W0 W → W.heap[l]? = some o → o.isCells = false → Ok pre x W0 (W.putObj l o'))
    (hb0 : Below w0.heap.size w0 w) (hps : ∀ x, (encs x).size = ps.size)
    (I : List α → World → Prop) (Ix : Code → List α → World → Prop) (hI : OwnFrom w.heap.size I) (hIx : ∀ c, OwnFrom w.heap.size (Ix c)) (h0 : I [] w) (a₁ : α → Act)
    (hassign : ∀ (l : Nat) (x : α) (W : World) (K : Act → World → Prop), K (a₁ x) W →
      assign.wpIn (F.inRound l) (n - 1 - 1) P (Exit.then K (fun _ _ _ => False)) { tmps := (ps.zip (encs x)).foldl (fun t (p, v) => t.setIfInBounds p v) a.tmps, defers := [] } W)
    (hbody : ∀ (l : Nat) (pre : List α) (x : α) (W0 W : World), I pre W0 → I pre W → KeptC W0 W → Ok pre x W0 W → body.wpIn (F.inRound l) (n - 1 - 1) P (ownPostG w.heap.size Kp I Ix (pre ++ [x]) W) (a₁ x) W)
    (hdone : ∀ (D : Nat) (xs : List α) (W : World), w.heap.size ≤ D → S xs → I xs W → W.heap[D]? = some (.deferred (some [])) → Q .normal { a with defers := { target := .collected D, args := #[] } :: a.defers } W)
    (hstop : ∀ (D : Nat) (c : Code) (pre : List α) (W : World), w.heap.size ≤ D → Sp pre → Ix c pre W → W.heap[D]? = some (.deferred (some [])) → c.wpIn F n P Q { a with defers := { target := .collected D, args := #[] } :: a.defers } W) :
    (Code.rangeFunc g ps assign body).wpIn F n P Q a w := by
  refine wpIn_rangeFunc fun fn hfn => ?_
  rw [hro]
  -- D the block for the rounds' deferred calls, R the loop's record
  obtain ⟨D, hD⟩ : ∃ D, D = w.heap.size := ⟨_, rfl⟩
  obtain ⟨rec, hrec⟩ : ∃ rec : LoopState → Option Code → Loop, rec = fun st pe => { state := st, pending := pe, fn, tmps := a.tmps, params := ps, assign, body, defers := D } := ⟨_, rfl⟩
  obtain ⟨V, hV⟩ : ∃ V, V = (w.alloc (.deferred (some []))).alloc (.loop (rec .ready none)) := ⟨_, rfl⟩
  have hsz : V.heap.size = D + 2 := by rw [hV, hD]; simp
  have hrun : (Instr.enterLoop fn a.tmps ps assign body none).run P w = .ok (D + 1, [{ target := .collected D, args := #[] }]) V := by
    rw [hV, hrec, hD]; exact run_enterLoop_outer _ _ _ _ _
  have hVl : V.heap[D + 1]? = some (.loop (rec .ready none)) := by
    have h := World.alloc_heap_new (w.alloc (.deferred (some []))) (.loop (rec .ready none))
    rw [World.size_alloc, ← hD] at h
    rw [hV]; exact h
  have hVd : V.heap[D]? = some (.deferred (some [])) := by
    rw [hV, hD]; exact (Below.heap_alloc _ _ _ (by simp)).trans (World.alloc_heap_new w _)
  have hVI : I [] V := by rw [hV]; exact hI.alloc _ (hI.alloc _ h0)
  have hVb : Below w0.heap.size w0 V := by
    rw [hV]; exact hb0.trans ((((Below.refl _ w).alloc (Nat.le_refl _) _).alloc (by simp) _).mono hb0.size)
  have hDw : w.heap.size ≤ D := by omega
  clear hV
  -- the two facts of the law's own, kept by what turns other blocks
  have two : ∀ {A B : World} {row : Option Nat} (o1 o2 : Obj), o1.isCells = false → o2.isCells = false → o1.isWalk = false → o2.isWalk = false → A.grownBy B row → (∀ r, row = some r → V.heap.size ≤ r ∧ ∃ o : Obj, A.heap[r]? = some o ∧ o.isWalk = true) →
      A.heap[D + 1]? = some o1 → A.heap[D]? = some o2 → B.heap[D + 1]? = some o1 ∧ B.heap[D]? = some o2 := by
    intro A B row o1 o2 _ _ _ _ hgr hr e1 e2
    have ne : ∀ k, k < V.heap.size → row ≠ some k := fun k hk e => by have := (hr k e).1; omega
    have h1 := (Array.getElem?_eq_some_iff.1 e1).1
    have h2 := (Array.getElem?_eq_some_iff.1 e2).1
    exact ⟨(hgr.block _ h1 (Ne.symm (ne (D + 1) (by omega)))).trans e1, (hgr.block _ h2 (Ne.symm (ne D (by omega)))).trans e2⟩
  have nw : ∀ {A : World} {row : Option Nat}, (∀ r, row = some r → V.heap.size ≤ r ∧ ∃ o : Obj, A.heap[r]? = some o ∧ o.isWalk = true) → (∀ r, row = some r → w.heap.size ≤ r ∧ ∃ o : Obj, A.heap[r]? = some o ∧ o.isCells = false) :=
    fun hr r e => by obtain ⟨hB, o, ho, hw⟩ := hr r e; exact ⟨by omega, o, ho, Obj.not_cells_of_walk hw⟩
  refine ⟨D + 1, _, V, { target := .fn (.func gf) lb, args := #[.func (.yield (D + 1)) #[] #[]] }, V, gf, #[.func (.yield (D + 1)) #[] #[]] ++ lb, V, hrun, ?_, ?_, ?_, fun _ => h1, ?_⟩
  · simp only [resolve, hg]
    simp [go_sem]
  · intro f' hf'
    simp [Target.leads] at hf'
    subst hf'
    exact hFg
  · simp [invoke, go_sem, eg]
  refine CallsIn.mono (hseq (D + 1) (fun pre W => I pre W ∧ W.heap[D + 1]? = some (.loop (rec .ready none)) ∧ W.heap[D]? = some (.deferred (some [])))
    (fun pre W => ∃ c, Ix c pre W ∧ W.heap[D + 1]? = some (.loop (rec .done (some c))) ∧ W.heap[D]? = some (.deferred (some []))) V hVb
    (fun s A B row hs hgr hr => ⟨hI s A B row hs.1 hgr (nw hr), two _ _ rfl rfl rfl rfl hgr hr hs.2.1 hs.2.2⟩)
    (fun s A B row ⟨c, hc, e1, e2⟩ hgr hr => ⟨c, hIx c s A B row hc hgr (nw hr), two _ _ rfl rfl rfl rfl hgr hr e1 e2⟩) ?_ ⟨hVI, hVl, hVd⟩) ?_
  · rintro pre x W0 W ⟨hi0, _, _⟩ ⟨hi, hl, hk⟩ hkc hok
    obtain ⟨U, hU⟩ : ∃ U, U = W.putObj (D + 1) (.loop { rec .ready none with state := .busy }) := ⟨_, rfl⟩
    have hy := run_yield (P := P) (args := encs x) hl (by rw [hrec]; exact hps x)
    rw [hrec] at hy
    have hbeg : (Instr.beginRound (D + 1)).run P W = .ok () U := by rw [hU]; exact run_beginRound hl (by rw [hrec])
    refine ⟨fn, _, assign, body, hy, roundIn_of_wpIn hfn (hassign _ x W _ ⟨U, hbeg, ?_⟩)⟩
    have hUl : U.heap[D + 1]? = some (.loop { rec .ready none with state := .busy }) := by rw [hU]; exact World.putObj_heap_same (Array.getElem?_eq_some_iff.1 hl).1
    have hUd : U.heap[D]? = some (.deferred (some [])) := by rw [hU]; exact (World.putObj_heap_other (by omega)).trans hk
    have hUK : Kp W U := by rw [hU]; exact hKb _ _ _ _ (by omega) hl rfl rfl
    have hUI : I pre U := by rw [hU]; exact hI.putObj _ hi (by omega) hl rfl
    have hUC : KeptC W0 U := by rw [hU]; exact hkc.put _ _ hl rfl
    have hUO : Ok pre x W0 U := by rw [hU]; exact hOk _ _ _ _ _ _ _ hok hl rfl
    clear hU hbeg
    refine wpIn_mono (hbody _ pre x W0 U hi0 hUI hUC hUO) ?_
    -- the round's end
    have fin : ∀ (j : Option Code) (X : World), KeepsFrom w.heap.size U X → ∃ Y, Y = X.putObj (D + 1) (.loop (rec (if j.isNone then .ready else .done) j)) ∧
        (Instr.endRound (D + 1) j).run P X = .ok (.bool j.isNone) Y ∧ X.heap[D + 1]? = some (.loop { rec .ready none with state := .busy }) ∧ Y.heap[D + 1]? = some (.loop (rec (if j.isNone then .ready else .done) j)) ∧ Y.heap[D]? = some (.deferred (some [])) := by
      intro j X hX
      have e1 := hX.same _ _ (by omega) hUl rfl
      have e2 := hX.same _ _ hDw hUd rfl
      have hr := run_endRound (P := P) j e1
      rw [hrec] at hr
      refine ⟨_, rfl, ?_, e1, World.putObj_heap_same (Array.getElem?_eq_some_iff.1 e1).1, (World.putObj_heap_other (by omega)).trans e2⟩
      rw [hrec]
      exact hr
    have leave : ∀ (c : Code) (X : World), KeepsFrom w.heap.size U X → Ix c (pre ++ [x]) X → ∃ Y, (Instr.endRound (D + 1) (some c)).run P X = .ok (.bool false) Y ∧ Ix c (pre ++ [x]) Y ∧ Y.heap[D + 1]? = some (.loop (rec .done (some c))) ∧ Y.heap[D]? = some (.deferred (some [])) := by
      intro c X hX hx
      obtain ⟨Y, hY, hr, e0, e1, e2⟩ := fin (some c) X hX
      refine ⟨Y, hr, ?_, e1, e2⟩
      rw [hY]
      exact (hIx c).putObj _ hx (by omega) e0 rfl
    rintro e a3 X hp
    cases e with
    | normal =>
      obtain ⟨hX, hXK, hXI⟩ := hp
      obtain ⟨Y, hY, hr, e0, e1, e2⟩ := fin none X hX
      refine ⟨_, _, hr, .inl ⟨rfl, ⟨?_, e1, e2⟩, ?_⟩⟩
      · rw [hY]; exact hI.putObj _ hXI (by omega) e0 rfl
      · rw [hY]; exact hKt (hKt hUK hXK) (hKb _ _ _ _ (by omega) e0 rfl rfl)
    | ret => obtain ⟨Y, hr, h2, h3, h4⟩ := leave .ret X hp.1 hp.2; exact ⟨_, _, hr, .inr ⟨rfl, .ret, h2, h3, h4⟩⟩
    | exit id => obtain ⟨Y, hr, h2, h3, h4⟩ := leave (.exit id) X hp.1 hp.2; exact ⟨_, _, hr, .inr ⟨rfl, .exit id, h2, h3, h4⟩⟩
    | goto t => obtain ⟨Y, hr, h2, h3, h4⟩ := leave (.goto t) X hp.1 hp.2; exact ⟨_, _, hr, .inr ⟨rfl, .goto t, h2, h3, h4⟩⟩
    | panic ch => exact hp.elim
    | outgrown => exact hp.elim
  · rintro e X ⟨⟨v, rfl⟩, (⟨xs, hS, hi, hl, hk⟩ | ⟨pre, hSp, c, hi, hl, hk⟩)⟩
    · have hr := run_endLoop (P := P) hl (by rw [hrec]; simp)
      rw [hrec] at hr
      exact ⟨none, _, hr, hdone _ xs _ hDw hS (hI.putObj _ hi (by omega) hl rfl) ((World.putObj_heap_other (by omega)).trans hk)⟩
    · have hr := run_endLoop (P := P) hl (by rw [hrec]; simp)
      rw [hrec] at hr
      exact ⟨some c, _, hr, hstop _ c pre _ hDw hSp ((hIx c).putObj _ hi (by omega) hl rfl) ((World.putObj_heap_other (by omega)).trans hk)⟩

/-! a region that draws its order, in a round of the wide fence -/

def noDefer (ops : Array Oper) : Bool := ops.all fun o => match o.op with | .defer _ => false | _ => true
theorem noDefer_at {ops : Array Oper} (h : noDefer ops = true) {i : Nat} {o : Oper} (ho : ops[i]? = some o) : ∀ c, o.op ≠ .defer c := by
  intro c e
  obtain ⟨hi, rfl⟩ := Array.getElem?_eq_some_iff.1 ho
  have h' := Array.all_eq_true.1 h i hi
  rw [e] at h'
  cases h'
/-- only the way on -/
def QN (R : Act → World → Prop) : Exit → Act → World → Prop := fun x a w => x = .normal ∧ R a w
theorem not_lets (R : Act → World → Prop) : ¬ LetsOut (QN R) := fun ⟨_, _, h, _⟩ => by cases h
theorem rows_wide {l n : Nat} {P : Program} {row : String} {args : Array Value} {w : World} {R : Value → World → Prop} (h : Rows P row args w R) : RowsIn (Fence.wide.inRound l) n P row args w R :=
  fun c cs _ => let ⟨v, w', r, s⟩ := h c cs; ⟨v, w', r, stepsIn_wide.2 s⟩
theorem calls_wide {l n : Nat} {P : Program} {f : FuncId} {args : Array Value} {w : World} {R : Ending → World → Prop} (h : Calls P f args w R) : CallsIn (Fence.wide.inRound l) n P f args w R :=
  CallsIn.inRound l (callsIn_wide.2 h)
theorem wpOps_in {l n : Nat} {P : Program} {ops : Array Oper} {Q : Exit → Act → World → Prop} (hnd : noDefer ops = true) : ∀ (L : List Nat) (a : Act) (w : World),
    wpOps P ops (QN fun a w => Q .normal a w) L a w → wpOpsIn (Fence.wide.inRound l) n P ops Q L a w
  | [], a, w, h => h.2
  | i :: rest, a, w, h => by
    unfold wpOps at h
    unfold wpOpsIn
    cases ho : ops[i]? with
    | none => simp only [ho] at h ⊢; exact wpOps_in hnd rest a w h
    | some o =>
      simp only [ho] at h ⊢
      by_cases hw : Region.wanted o (yielded ops a.tmps) = true
      · rw [if_pos hw] at h ⊢
        rcases h with h | ⟨_, h⟩
        · refine ⟨fun _ _ => trivial, ?_⟩
          rw [Oper.semAt_eq _ _ _ (noDefer_at hnd ho)]
          unfold Oper.wp at h
          generalize (execOp a.eval o).run P w = r at h ⊢
          cases r with
          | ok x w' =>
            cases x <;> simp only [Oper.upon, Oper.uponIn] at h ⊢
            case value u => exact wpOps_in hnd rest _ _ h
            case skip => exact wpOps_in hnd rest _ _ h
            case defer d => exact wpOps_in hnd rest _ _ h
            case enter f args =>
              refine ⟨fun e => (by cases e), calls_wide (h.mono fun e w'' he => ?_)⟩
              cases e with
              | returned u => exact wpOps_in hnd rest _ _ he
              | panicked c => cases he.1
              | outgrown => exact absurd he (not_lets _)
            case row row args => exact ⟨fun e => (by cases e), rows_wide (h.mono fun u w'' he => wpOps_in hnd rest _ _ he)⟩
          | halt x w' =>
            cases x <;> simp only [Oper.upon, Oper.uponIn] at h ⊢
            case panic u => cases h.1
        · exact absurd h (not_lets _)
      · rw [if_neg hw] at h ⊢
        exact ⟨fun _ _ => trivial, wpOps_in hnd rest _ _ h⟩
theorem wpIn_any {l n : Nat} {P : Program} {ops : Array Oper} {Q : Exit → Act → World → Prop} {id : Nat} {a : Act} {w : World} (hnd : noDefer ops = true) (hm : P.follows .mixedOrders = true)
    (h : wpAny P .any ops (QN fun a w => Q .normal a w) ops.size (Array.replicate ops.size false) a w.drew) : (Code.region id ops true).wpIn (Fence.wide.inRound l) n P Q a w := by
  refine wpIn_region_draw fun t => wpOps_in hnd _ _ _ ?_
  simp only [Region.schedule, hm, Bool.true_or, if_true]
  exact wpAny_sound ops.size t _ a _ h
theorem wpIn_regionX (S : World → Prop) (L : Nat) {l n : Nat} {P : Program} {ops : Array Oper} {Q : Exit → Act → World → Prop} {id : Nat} {a : Act} {w : World} (hnd : noDefer ops = true) (hm : P.follows .mixedOrders = true) (hS : S w.drew)
    (h : wpX P .any ops (QN fun a w => Q .normal a w) L ops.size S (Array.replicate ops.size false) a) : (Code.region id ops true).wpIn (Fence.wide.inRound l) n P Q a w :=
  wpIn_any hnd hm (wpX_any _ _ _ _ _ h hS)

end Go.Proofs.Ytblgdfamomlklaa
/- octet.Chunks and the function that it gives. -/
namespace Go.Proofs.Ytblgdfamomlklaa
open Go.RowKit Go.Shelf
attribute [local go_sem] Oper.semAt_some

/-- the pieces of a list, of Z + 1 bytes each, with their places -/
def chs (Z : Nat) (p : Nat) (l : List UInt8) : List (Nat × List UInt8) :=
  match l with
  | [] => []
  | x :: t => (p, (x :: t).take (Z + 1)) :: chs Z (p + min (Z + 1) (t.length + 1)) (t.drop Z)
termination_by l.length
decreasing_by simp; omega
theorem chs_nil (Z p : Nat) : chs Z p [] = [] := by rw [chs]
theorem chs_cons {Z p : Nat} {l : List UInt8} (h : l ≠ []) : chs Z p l = (p, l.take (Z + 1)) :: chs Z (p + min (Z + 1) l.length) (l.drop (Z + 1)) := by
  cases l with
  | nil => exact absurd rfl h
  | cons x t => rw [chs]; simp
/-- .. of a size -/
def chL (z : Int) (l : List UInt8) : List (Nat × List UInt8) := if z < 1 then [] else chs (z.toNat - 1) 0 l
/-- what came of a list of pieces -/
def flt (ps : List (Nat × List UInt8)) : List UInt8 := (ps.map (·.2)).flatten
theorem flt_nil : flt [] = [] := rfl
theorem flt_cons (x : Nat × List UInt8) (ps : List (Nat × List UInt8)) : flt (x :: ps) = x.2 ++ flt ps := by simp [flt]
theorem flt_app (ps qs : List (Nat × List UInt8)) : flt (ps ++ qs) = flt ps ++ flt qs := by simp [flt]
theorem flt_chs (Z : Nat) : ∀ (N p : Nat) (l : List UInt8), l.length ≤ N → flt (chs Z p l) = l := by
  intro N
  induction N with
  | zero => intro p l h; obtain rfl : l = [] := List.eq_nil_of_length_eq_zero (by omega); rw [chs_nil]; rfl
  | succ N ih =>
    intro p l h
    by_cases h0 : l = []
    · subst h0; rw [chs_nil]; rfl
    · rw [chs_cons h0, flt_cons, ih _ _ (by rw [List.length_drop]; omega)]
      exact List.take_append_drop _ _
/-- each piece stands where those ahead of it end -/
theorem chs_at (Z : Nat) : ∀ (ps : List (Nat × List UInt8)) (p t : Nat) (b : List UInt8) (r : List (Nat × List UInt8)) (l : List UInt8), ps ++ (t, b) :: r = chs Z p l → t = p + (flt ps).length
  | [], p, t, b, r, l, h => by
    by_cases h0 : l = []
    · subst h0; rw [chs_nil] at h; cases h
    · rw [chs_cons h0] at h
      simp only [List.nil_append, List.cons.injEq, Prod.mk.injEq] at h
      rw [h.1.1]; rfl
  | y :: ps, p, t, b, r, l, h => by
    by_cases h0 : l = []
    · subst h0; rw [chs_nil] at h; cases h
    · rw [chs_cons h0] at h
      simp only [List.cons_append, List.cons.injEq] at h
      have := chs_at Z ps _ t b r _ h.2
      rw [flt_cons, h.1, List.length_append, List.length_take, this]
      show _ = p + (min (Z + 1) l.length + (flt ps).length)
      omega

/-- a piece as it is told -/
structure Pce where
  at_ : Nat
  sl : Sl
  b : List UInt8
def Pce.vals (x : Pce) : Array Value := #[.int .i64 (x.at_ : Int), x.sl.val]
def Pce.pr (x : Pce) : Nat × List UInt8 := (x.at_, x.b)

/-- what the function that is given back holds -/
structure Chk (w : World) (B b1 b2 : Nat) (z : Int) (ao : Option Addr) (n co : Nat) (l : List UInt8) : Prop where
  size : Row w b1 3 #[.int .i64 z]
  box : Row w b2 34 #[.slice ao n co]
  own : BOwn w B ao n co l
  above : B ≤ b1 ∧ B ≤ b2
/-- its blocks -/
def Chk.S (b1 b2 : Nat) (ao : Option Addr) (co : Nat) (k : Nat) : Prop := k = b1 ∨ k = b2 ∨ In ao co k
/-- these lie as they lay -/
structure KeptS (S : Nat → Prop) (W W' : World) : Prop where
  size : W.heap.size ≤ W'.heap.size
  same : ∀ k, S k → k < W.heap.size → W'.heap[k]? = W.heap[k]?
theorem KeptS.refl (S : Nat → Prop) (W : World) : KeptS S W W := ⟨Nat.le_refl _, fun _ _ _ => rfl⟩
theorem KeptS.trans {S : Nat → Prop} {A B C : World} (h : KeptS S A B) (k : KeptS S B C) : KeptS S A C :=
  ⟨Nat.le_trans h.size k.size, fun i hi hl => (k.same i hi (Nat.lt_of_lt_of_le hl h.size)).trans (h.same i hi hl)⟩
theorem KeptS.of {S : Nat → Prop} {A B : World} (h : A.grownBy B none) : KeptS S A B := ⟨h.size, fun k _ hl => h.block k hl (by simp)⟩
theorem KeptS.put {S : Nat → Prop} (W : World) (l : Nat) (o' : Obj) (h : ¬ S l) : KeptS S W (W.putObj l o') :=
  ⟨(grownBy_putObj' W l o').size, fun k hk hl => World.putObj_heap_other (fun e => h (by first | exact e ▸ hk | exact e.symm ▸ hk))⟩
theorem KeptS.ch {S : Nat → Prop} {A B : World} {T : Nat → Prop} (h : Ch T A B) (hd : ∀ k, S k → ¬ T k) : KeptS S A B := ⟨h.size, fun k hk hl => h.block k hl (hd k hk)⟩
theorem Chk.kept {w w' : World} {B b1 b2 : Nat} {z : Int} {ao : Option Addr} {n co : Nat} {l : List UInt8} (h : Chk w B b1 b2 z ao n co l) (hk : KeptS (Chk.S b1 b2 ao co) w w') : Chk w' B b1 b2 z ao n co l :=
  ⟨(hk.same b1 (.inl rfl) h.size.lt).trans h.size, (hk.same b2 (.inr (.inl rfl)) h.box.lt).trans h.box, Own.kept' h.own fun h0 g e hl => hk.same g (.inr (.inr ⟨h0, e⟩)) hl, h.above⟩
theorem Chk.lt {w : World} {B b1 b2 : Nat} {z : Int} {ao : Option Addr} {n co : Nat} {l : List UInt8} (h : Chk w B b1 b2 z ao n co l) {k : Nat} (hk : Chk.S b1 b2 ao co k) : B ≤ k ∧ k < w.heap.size := by
  rcases hk with rfl | rfl | hk
  · exact ⟨h.above.1, h.size.lt⟩
  · exact ⟨h.above.2, h.box.lt⟩
  · exact Own.inn h.own hk

/-- what a round is told -/
structure ChOk (all : List (Nat × List UInt8)) (pre : List Pce) (x : Pce) (W0 W1 : World) : Prop where
  at_ : ∃ r, pre.map Pce.pr ++ x.pr :: r = all
  own : BOwn W1 W0.heap.size x.sl.a x.sl.n x.sl.c x.b
theorem ChOk.put {all : List (Nat × List UInt8)} {pre : List Pce} {x : Pce} {W0 W : World} (h : ChOk all pre x W0 W) (l : Nat) {o : Obj} (o' : Obj) (hl : W.heap[l]? = some o) (ho : o.isCells = false) : ChOk all pre x W0 (W.putObj l o') := by
  refine ⟨h.at_, ?_⟩
  rcases h.own.2 with h0 | ⟨g, cur, ha, hb, hh, rest⟩
  · exact ⟨h.own.1, .inl h0⟩
  · refine ⟨h.own.1, .inr ⟨g, cur, ha, hb, ?_, rest⟩⟩
    have hne : l ≠ g := fun e => by subst e; rw [hl] at hh; injection hh with hh; subst hh; cases ho
    first | exact (World.putObj_heap_other hne).trans hh | exact (World.putObj_heap_other hne.symm).trans hh

set_option maxRecDepth 100000 in
set_option maxHeartbeats 4000000 in
theorem chunks_n (a : Option Addr) (c n : Nat) (z : Int) (l : List UInt8) (w : World) (ha : BLies w a l) (hl : l.length = n) (hn : n ≤ 4000000100) :
    Calls Try.prog 49 #[.slice a n c, .int .i64 z] w fun e w' => ∃ b1 b2 ao co, e = .returned (.func (.func 68) #[] #[.pointer (some ⟨b1, 0, none⟩), .pointer (some ⟨b2, 0, none⟩)]) ∧
      Chk w' w.heap.size b1 b2 z ao n co l ∧ w.grownBy w' none := by
  obtain ⟨il, hi, hz, hsz, _⟩ := info_parts (show (Try.prog.info? 34).map (fun i => (i.zero, i.size, i.bytes)) = some (some (.slice none 0 0), 1, 24) by kernel_rfl)
  have HA := Lib.hid ha
  have HL := Lib.hid hl
  clear ha hl
  go_enter Try.func49, Try.ntmps49
  go_upto_region 1 with (refine wpList_box1 rfl rfl (.int .i64 z) rfl rfl ?_; intro W1 hs1 hg1 hr1; have HG1 := Lib.hid hg1; have HR1 := Lib.hid hr1; clear hs1 hg1 hr1)
  go_wp2_with (first | (go_at_call 67; refine (clone_n a c n l _ (HA.out.grown HG1.out) HL.out hn).mono ?_; rintro e W2 ⟨ao, co, rfl, ho, hg⟩; have HO := Lib.hid ho; have HG2 := Lib.hid hg; clear ho hg) | (refine wpList_fresh1 rfl rfl rfl rfl rfl hi hz hsz rfl (.slice ao n co) rfl rfl rfl ?_; intro W3 hs3 hg3 hr3; have HG3 := Lib.hid hg3; have HR3 := Lib.hid hr3; clear hs3 hg3 hr3))
  go_ret
  have h1 := HR1.out
  have h2 := HO.out
  have h3 := HR3.out
  have g1 := HG1.out
  have g2 := HG2.out
  have g3 := HG3.out
  exact ⟨_, _, ao, co, rfl, ⟨Row.grown (Row.grown h1 g2) g3, h3, BOwn.grown (BOwn.mono h2 g1.size) g3, Nat.le_refl _, Nat.le_trans g1.size g2.size⟩, grownBy_trans (grownBy_trans g1 g2) g3⟩

end Go.Proofs.Ytblgdfamomlklaa
/- Plain regions in a round of the wide fence; what cells that lay kept; lists collected in a round. -/
namespace Go.Proofs.Ytblgdfamomlklaa
open Go.RowKit Go.Shelf

theorem wpListIn_of {l n : Nat} {P : Program} {ops : Array Oper} {Q : Exit → Act → World → Prop} : ∀ (L : List Oper) (a : Act) (w : World), (∀ o ∈ L, ∀ c, o.op ≠ .defer c) →
    wpList P ops (QN fun a w => Q .normal a w) L a w → wpListIn (Fence.wide.inRound l) n P ops Q L a w
  | [], a, w, _, h => h.2
  | o :: rest, a, w, hd, h => by
    unfold wpList at h
    unfold wpListIn
    have hr : ∀ o ∈ rest, ∀ c, o.op ≠ .defer c := fun x hx => hd x (List.mem_cons_of_mem _ hx)
    by_cases hw : Region.wanted o (yielded ops a.tmps) = true
    · rw [if_pos hw] at h ⊢
      rcases h with h | ⟨_, h⟩
      · refine ⟨fun _ _ => trivial, ?_⟩
        rw [Oper.semAt_eq _ _ _ (hd o (List.mem_cons_self ..))]
        unfold Oper.wp at h
        generalize (execOp a.eval o).run P w = r at h ⊢
        cases r with
        | ok x w' =>
          cases x <;> simp only [Oper.upon, Oper.uponIn] at h ⊢
          case value u => exact wpListIn_of rest _ _ hr h
          case skip => exact wpListIn_of rest _ _ hr h
          case defer d => exact wpListIn_of rest _ _ hr h
          case enter f args =>
            refine ⟨fun e => (by cases e), calls_wide (h.mono fun e w'' he => ?_)⟩
            cases e with
            | returned u => exact wpListIn_of rest _ _ hr he
            | panicked c => cases he.1
            | outgrown => exact absurd he (not_lets _)
          case row row args => exact ⟨fun e => (by cases e), rows_wide (h.mono fun u w'' he => wpListIn_of rest _ _ hr he)⟩
        | halt x w' =>
          cases x <;> simp only [Oper.upon, Oper.uponIn] at h ⊢
          case panic u => cases h.1
      · exact absurd h (not_lets _)
    · rw [if_neg hw] at h ⊢
      exact ⟨fun _ _ => trivial, wpListIn_of rest _ _ hr h⟩
/-- a plain region, by the plain walk -/
theorem wpIn_regionP {l n : Nat} {P : Program} {L : List Oper} {Q : Exit → Act → World → Prop} {id : Nat} {a : Act} {w : World} (hnd : noDefer L.toArray = true)
    (h : wpList P L.toArray (QN fun a w => Q .normal a w) L a w) : (Code.region id L.toArray false).wpIn (Fence.wide.inRound l) n P Q a w := by
  refine wpIn_region_lit (wpListIn_of L a w (fun o ho c e => ?_) h)
  obtain ⟨i, hi, rfl⟩ := List.getElem_of_mem ho
  exact noDefer_at hnd (i := i) (by simp [hi]) c e

theorem Row.keptC {A B : World} {g : Nat} {t : TypeId} {cs : Array Value} (h : Row A g t cs) (hk : KeptC A B) : Row B g t cs := hk.same g _ h rfl
theorem Own.keptC {A B : World} {base : Nat} {e : TypeId} {size : Nat} {a : Option Addr} {n c : Nat} {xs : List Value} (h : Own A base e size a n c xs) (hk : KeptC A B) : Own B base e size a n c xs := by
  refine ⟨h.1, ?_⟩
  rcases h.2 with h0 | ⟨g, cur, ha, hb, hh, rest⟩
  · exact .inl h0
  · exact .inr ⟨g, cur, ha, hb, hk.same g _ hh rfl, rest⟩
theorem LIs.keptC {A B : World} {base : Nat} {a : Option Addr} {n c : Nat} {bs : List (List UInt8)} {L : List Sl} (h : LIs A base a n c bs L) (hk : KeptC A B) : LIs B base a n c bs L :=
  ⟨Own.keptC h.outer hk, h.len, fun i h1 h2 => Own.keptC (h.inner i h1 h2) hk, h.apart⟩
theorem LIs.nc {A B : World} {row : Option Nat} {b0 : Nat} {base : Nat} {a : Option Addr} {n c : Nat} {bs : List (List UInt8)} {L : List Sl} (h : LIs A base a n c bs L) (hg : A.grownBy B row) (hr : ∀ r, row = some r → b0 ≤ r ∧ ∃ o : Obj, A.heap[r]? = some o ∧ o.isCells = false) : LIs B base a n c bs L := by
  have hk : KeptC A B := ⟨hg.size, fun k o hko hoc => (hg.block k (Array.getElem?_eq_some_iff.1 hko).1 (fun e => by
    obtain ⟨_, o', ho', hc'⟩ := hr k e.symm
    rw [hko] at ho'
    injection ho' with ho'
    subst ho'
    rw [hoc] at hc'
    cases hc')).trans hko⟩
  exact h.keptC hk

/-- one list more, made since the others -/
theorem LIs.pushK {w w1 w2 : World} {base : Nat} {a : Option Addr} {n c : Nat} {bs : List (List UInt8)} {L : List Sl} (h : LIs w base a n c bs L) (hb : base ≤ w.heap.size) (hg : KeptC w w1)
    {a' : Option Addr} {n' c' : Nat} {b : List UInt8} (ho : BOwn w1 w.heap.size a' n' c' b) {a2 : Option Addr} {c2 : Nat}
    (hs : Own w2 base 34 1 a2 (n + 1) c2 (L.map Sl.val ++ [.slice a' n' c'])) (hgr : GrewP w1 w2 a c a2 c2) : LIs w2 base a2 (n + 1) c2 (bs ++ [b]) (L ++ [⟨a', n', c'⟩]) := by
  obtain ⟨h1, h2, h3, h4⟩ := h
  have h1' : SOwn w1 base a n c L := Own.keptC h1 hg
  have hin : ∀ i (h : i < L.length) (h' : i < bs.length), BOwn w2 base (L[i]).a (L[i]).n (L[i]).c bs[i] := fun i h h' => Own.grewOther (Own.keptC (h3 i h h') hg) h1' hgr (by decide)
  have hnew : BOwn w2 base a' n' c' b := Own.grewOther (ho.mono hb) h1' hgr (by decide)
  refine ⟨?_, by simp [h2], ?_, ?_⟩
  · unfold SOwn; rw [List.map_append]; exact hs
  · intro i hi hi'
    by_cases e : i < L.length
    · have e' : i < bs.length := by omega
      rw [List.getElem_append_left e, List.getElem_append_left e']
      exact hin i e e'
    · simp only [List.length_append, List.length_singleton] at hi
      obtain rfl : i = L.length := by omega
      have e2 : (L ++ [⟨a', n', c'⟩])[L.length] = (⟨a', n', c'⟩ : Sl) := by simp
      have e3 : (bs ++ [b])[L.length] = b := by simp [h2]
      rw [e2, e3]
      exact hnew
  · have old : ∀ i (hi : i < L.length) g, (L[i]).blk = some g → g < w.heap.size := by
      intro i hi g hgb
      have hbo := h3 i hi (by omega)
      obtain ⟨hc, ha⟩ := hbo.blk hgb
      obtain ⟨g', ha', _, hlt⟩ := Own.block hbo hc
      rw [ha] at ha'
      obtain rfl : g = g' := by simpa using ha'
      exact hlt
    have new : ∀ g, (⟨a', n', c'⟩ : Sl).blk = some g → w.heap.size ≤ g := by
      intro g hgb
      have hbo : BOwn w1 w.heap.size (⟨a', n', c'⟩ : Sl).a (⟨a', n', c'⟩ : Sl).n (⟨a', n', c'⟩ : Sl).c b := ho
      obtain ⟨hc, ha⟩ := hbo.blk hgb
      obtain ⟨g', ha', hlt, _⟩ := Own.block hbo hc
      rw [ha] at ha'
      obtain rfl : g = g' := by simpa using ha'
      exact hlt
    intro i j hi hj hij g hgi hgj
    simp only [List.length_append, List.length_singleton] at hi hj
    by_cases ei : i < L.length
    · by_cases ej : j < L.length
      · rw [List.getElem_append_left ei] at hgi
        rw [List.getElem_append_left ej] at hgj
        exact h4 i j ei ej hij g hgi hgj
      · obtain rfl : j = L.length := by omega
        rw [List.getElem_append_left ei] at hgi
        have e2 : (L ++ [⟨a', n', c'⟩])[L.length]'(by simp) = (⟨a', n', c'⟩ : Sl) := by simp
        rw [e2] at hgj
        have := old i ei g hgi
        have := new g hgj
        omega
    · obtain rfl : i = L.length := by omega
      have ej : j < L.length := by omega
      rw [List.getElem_append_left ej] at hgj
      have e2 : (L ++ [⟨a', n', c'⟩])[L.length]'(by simp) = (⟨a', n', c'⟩ : Sl) := by simp
      rw [e2] at hgi
      have := old j ej g hgj
      have := new g hgi
      omega
theorem LIs.lies {w : World} {base : Nat} {a : Option Addr} {n c : Nat} {bs : List (List UInt8)} {L : List Sl} (h : LIs w base a n c bs L) : LLies w a L bs := by
  refine ⟨?_, h.len, fun i h1 h2 => ⟨(h.inner i h1 h2).lies, (h.inner i h1 h2).len.symm⟩⟩
  intro k hk
  obtain ⟨g, e, _, _, hc, _⟩ := Own.cell h.outer k hk
  exact ⟨g, 0, e, by rw [Nat.zero_add, hc]⟩

theorem LIs.chS {w w' : World} {base : Nat} {a : Option Addr} {n c : Nat} {bs : List (List UInt8)} {L : List Sl} {S : Nat → Prop} (h : LIs w base a n c bs L) (hc : Ch S w w') (ho : ∀ g, In a c g → ¬ S g) (hi : ∀ i (hi : i < L.length) g, In (L[i]).a (L[i]).c g → ¬ S g) : LIs w' base a n c bs L :=
  ⟨Own.ch h.outer hc (fun h0 g e => ho g ⟨h0, e⟩), h.len, fun i h1 h2 => Own.ch (h.inner i h1 h2) hc (fun h0 g e => hi i h1 g ⟨h0, e⟩), h.apart⟩

/-- the caller's law, its act behind the assignment told by what is assigned -/
theorem wpIn_rangeOkA {F : Fence} {n : Nat} {P : Program} {α : Type} {g : Operand} {ps : Array Tmp} {assign body : Code} {Q : Exit → Act → World → Prop} {a : Act} {w : World}
    (asg : Array Value → α → Array Value)
    (hro : F.round = none) (h1 : 1 ≤ n) {gf : Nat} {lb : Array Value} (hg : a.eval g = .func (.func gf) #[] lb) (hFg : F.fn gf) (eg : ∀ args w, (callFunc gf args).run P w = .ok (.enter gf args) w)
    {encs : α → Array Value} {Kp : World → World → Prop} {Ok : List α → α → World → World → Prop} {S Sp : List α → Prop} {w0 : World} (hseq : SeqOk F (n - 1) P gf lb encs Kp Ok S Sp w0)
    (hKt : ∀ {A B C : World}, Kp A B → Kp B C → Kp A C) (hKb : ∀ (W : World) (l : Nat) (o o' : Obj), w.heap.size ≤ l → W.heap[l]? = some o → o.isCells = false → o.isWalk = false → Kp W (W.putObj l o'))
    (hOk : ∀ pre x (W0 W : World) (l : Nat) (o o' : Obj), Ok pre x W0 W → W.heap[l]? = some o → o.isCells = false → Ok pre x W0 (W.putObj l o'))
    (hb0 : Below w0.heap.size w0 w) (hps : ∀ x, (encs x).size = ps.size)
    (I : List α → World → Prop) (Ix : Code → List α → World → Prop) (hI : OwnFrom w.heap.size I) (hIx : ∀ c, OwnFrom w.heap.size (Ix c)) (h0 : I [] w)
    (hassign : ∀ (l : Nat) (x : α) (W : World) (K : Act → World → Prop), K { tmps := asg a.tmps x, defers := [] } W →
      assign.wpIn (F.inRound l) (n - 1 - 1) P (Exit.then K (fun _ _ _ => False)) { tmps := (ps.zip (encs x)).foldl (fun t (p, v) => t.setIfInBounds p v) a.tmps, defers := [] } W)
    (hbody : ∀ (l : Nat) (pre : List α) (x : α) (W0 W : World), I pre W0 → I pre W → KeptC W0 W → Ok pre x W0 W → body.wpIn (F.inRound l) (n - 1 - 1) P (ownPostG w.heap.size Kp I Ix (pre ++ [x]) W) { tmps := asg a.tmps x, defers := [] } W)
    (hdone : ∀ (D : Nat) (xs : List α) (W : World), w.heap.size ≤ D → S xs → I xs W → W.heap[D]? = some (.deferred (some [])) → Q .normal { a with defers := { target := .collected D, args := #[] } :: a.defers } W)
    (hstop : ∀ (D : Nat) (c : Code) (pre : List α) (W : World), w.heap.size ≤ D → Sp pre → Ix c pre W → W.heap[D]? = some (.deferred (some [])) → c.wpIn F n P Q { a with defers := { target := .collected D, args := #[] } :: a.defers } W) :
    (Code.rangeFunc g ps assign body).wpIn F n P Q a w :=
  wpIn_rangeOk hro h1 hg hFg eg hseq hKt hKb hOk hb0 hps I Ix hI hIx h0 _ hassign hbody hdone hstop

theorem chs_len (Z : Nat) : ∀ (N p : Nat) (l : List UInt8), l.length ≤ N → (chs Z p l).length ≤ l.length := by
  intro N
  induction N with
  | zero => intro p l h; obtain rfl : l = [] := List.eq_nil_of_length_eq_zero (by omega); rw [chs_nil]; exact Nat.le_refl _
  | succ N ih =>
    intro p l h
    by_cases h0 : l = []
    · subst h0; rw [chs_nil]; exact Nat.le_refl _
    · have hp := List.length_pos_iff.2 h0
      rw [chs_cons h0, List.length_cons]
      have := ih (p + min (Z + 1) l.length) (l.drop (Z + 1)) (by rw [List.length_drop]; omega)
      rw [List.length_drop] at this
      omega
theorem flt_pce (xs : List Pce) : (xs.map Pce.b).flatten = flt (xs.map Pce.pr) := by
  unfold flt
  rw [List.map_map]
  rfl

end Go.Proofs.Ytblgdfamomlklaa
/- ctr.Blocks and the function that it gives. -/
namespace Go.Proofs.Ytblgdfamomlklaa
open Go.RowKit Go.Shelf
attribute [local go_sem] Oper.semAt_some

/-- the block that is told at a number -/
def ksB (key : List UInt8) (n : Nat) : List UInt8 := encS (keysL key) (ctrL n) 10
structure Bk where
  n : Nat
  b : List UInt8
def Bk.vals (x : Bk) : Array Value := #[.int .u64 (x.n : Int), aggB x.b]
/-- cells that lie from a place on lie as they lay -/
structure KeptAb (B : Nat) (W W' : World) : Prop where
  size : W.heap.size ≤ W'.heap.size
  same : ∀ (k : Nat) (o : Obj), B ≤ k → W.heap[k]? = some o → o.isCells = true → W'.heap[k]? = some o
theorem KeptAb.refl (B : Nat) (W : World) : KeptAb B W W := ⟨Nat.le_refl _, fun _ _ _ h _ => h⟩
theorem KeptAb.trans {B : Nat} {X Y Z : World} (h : KeptAb B X Y) (k : KeptAb B Y Z) : KeptAb B X Z := ⟨Nat.le_trans h.size k.size, fun i o hB hi ho => k.same i o hB (h.same i o hB hi ho) ho⟩
theorem KeptAb.of {B : Nat} {W W' : World} (h : W.grownBy W' none) : KeptAb B W W' := ⟨h.size, fun k o _ hk _ => (h.block k (Array.getElem?_eq_some_iff.1 hk).1 (by simp)).trans hk⟩
theorem KeptAb.put {B : Nat} (W : World) (l : Nat) (o o' : Obj) (hl : W.heap[l]? = some o) (ho : o.isCells = false) : KeptAb B W (W.putObj l o') :=
  ⟨(grownBy_putObj' W l o').size, fun k o2 _ hk h2 => by
    by_cases e : k = l
    · subst e; rw [hl] at hk; injection hk with hk; subst hk; rw [ho] at h2; cases h2
    · exact (World.putObj_heap_other (by omega)).trans hk⟩
theorem KeptAb.ch {S : Nat → Prop} {B : Nat} {W W' : World} (h : Ch S W W') (hS : ∀ k, S k → k < B) : KeptAb B W W' :=
  ⟨h.size, fun k o hB hk _ => (h.block k (Array.getElem?_eq_some_iff.1 hk).1 (fun hs => by have := hS k hs; omega)).trans hk⟩
theorem range_keptAb {B : Nat} {W W' : World} (hk : KeptAb B W W') {g off : Nat} {l : List Value} (hg : B ≤ g) (hc : ∃ o : Obj, W.heap[g]? = some o ∧ o.isCells = true) (h : W.rangeAt g off l) : W'.rangeAt g off l := by
  obtain ⟨o, ho, hoc⟩ := hc
  have e : W'.heap[g]? = W.heap[g]? := (hk.same g o hg ho hoc).trans ho.symm
  intro j v hj
  exact (World.cell?_of_block e).trans (h j v hj)
theorem cells_of_cell {W : World} {g k : Nat} {v : Value} (h : W.cell? ⟨g, k, none⟩ = some v) : ∃ o : Obj, W.heap[g]? = some o ∧ o.isCells = true := by
  simp only [World.cell?] at h
  cases hh : W.heap[g]? with
  | none => rw [hh] at h; simp at h
  | some o =>
    refine ⟨o, rfl, ?_⟩
    rw [hh] at h
    cases o <;> simp_all [Obj.isCells]
theorem CipAt.keptAb {B : Nat} {W W' : World} (hk : KeptAb B W W') {g : Nat} {kk : List UInt8} (hg : B ≤ g) (h : CipAt W g kk) : CipAt W' g kk := by
  have hc := cells_of_cell (h.1 0 _ rfl)
  exact ⟨range_keptAb hk hg hc h.1, range_keptAb hk hg hc h.2.1, range_keptAb hk hg hc h.2.2⟩
/-- what a round is told -/
def BkOk (key : List UInt8) (from_ : Nat) (pre : List Bk) (x : Bk) (_ _ : World) : Prop := x.n = from_ + pre.length ∧ x.n < 18446744073709551616 ∧ x.b = ksB key x.n

/-- an operation of the wide fence by its run -/
theorem wpListIn_val {n : Nat} {P : Program} {ops : Array Oper} {Q : Exit → Act → World → Prop} {o : Oper} {rest : List Oper} {a : Act} {w w1 : World} {v : Value}
    (hw : Region.wanted o (yielded ops a.tmps) = true) (hd : ∀ c, o.op ≠ .defer c) (hr : (execOp a.eval o).run P w = .ok (.value v) w1) (h : wpListIn Fence.wide n P ops Q rest (a.put o.dst v) w1) : wpListIn Fence.wide n P ops Q (o :: rest) a w := by
  unfold wpListIn
  rw [if_pos hw]
  refine ⟨fun _ _ => trivial, ?_⟩
  rw [Oper.semAt_eq _ _ _ hd, hr]
  simp only [Oper.uponIn]
  exact h
theorem ctrL_len (x : Nat) : (ctrL x).length = 16 := rfl
theorem ksB_len (key : List UInt8) (n : Nat) : (ksB key n).length = 16 := encS_len (keysL_len key) (ctrL_len n) 10 (by omega)

set_option maxRecDepth 100000 in
set_option maxHeartbeats 800000 in
theorem blocks1_in (m : Nat) (b1 b2 : Nat) (key : List UInt8) (hkl : key.length = 16) (fr : Nat) (hfr : fr < 18446744073709551616) (w : World) (h1 : Blk w b1 27 key) (h2 : Row w b2 22 #[.int .u64 (fr : Int)]) :
    SeqOk Fence.wide m Try.prog 36 #[.pointer (some ⟨b1, 0, none⟩), .pointer (some ⟨b2, 0, none⟩)] Bk.vals (KeptAb w.heap.size) (BkOk key fr)
      (fun xs => fr + xs.length = 18446744073709551616) (fun _ => True) w := by
  intro lp J Jx W hW hJ hJx hY h0
  have hb1 : Blk W b1 27 key := (hW.block b1 h1.lt).trans h1
  have hb2 : Row W b2 22 #[.int .u64 (fr : Int)] := (hW.block b2 h2.lt).trans h2
  have HB1 := Lib.hid hb1
  have c2 := Row.cell hb2 0
  simp at c2
  have HSZ := Lib.hid hW.size
  have HY := Lib.hid hY
  have HJ := Lib.hid hJ
  have HJ0 := Lib.hid h0
  clear h1 h2 hb1 hb2 hW hY hJ hJx h0
  obtain ⟨ib, hib, hibz, hibs⟩ := block_info
  refine callsIn_of_wp Try.func36 rfl trivial ?_ rfl
  simp only [Try.ntmps36, List.size_toArray, List.length_cons, List.length_nil, Nat.reduceAdd, Nat.reduceSub, Array.replicate_succ, Array.replicate_zero, List.push_toArray, List.append_toArray, List.nil_append, List.cons_append]
  gi_step
  gi_step
  refine wpIn_wide.2 (wp_region_lit ?_)
  go_wp2_with (first
    | (refine wpList_load_row rfl 27 _ rfl b1 rfl 27 (cellsB key) (0, 0) _ HB1.out Try.underlying27 rfl (by rw [cellsB_size, hkl]; kernel_rfl) ?_)
    | (go_at_call 37; refine (new_n key hkl W).mono ?_; rintro e W1 ⟨gc, rfl, hgc, hcip, hg⟩; have HGC := Lib.hid hgc; have HCIP := Lib.hid hcip; have HG := Lib.hid hg; have c21 := (World.cell?_of_block (hg.block _ (World.block_lt_of_cell? W ⟨b2, 0, none⟩ c2) (by simp))).trans c2; clear hgc hcip hg c2))
  gi_wp2
  have HJ1 := Lib.hid (HJ.out [] W W1 none HJ0.out HG.out (fun r e => by cases e))
  clear HJ0 c21
  obtain ⟨KK, hKK⟩ : ∃ KK, KK = keysL key := ⟨_, rfl⟩
  rw [← hKK] at HCIP
  have HKK := Lib.hid hKK
  have HKL := Lib.hid (show KK.length = 176 by rw [hKK]; exact keysL_len key)
  clear hKK
  gi_loopw [5] (fun vn wr => ∃ pre : List Bk, fr + pre.length < 18446744073709551616 ∧ vn = .int .u64 ((fr + pre.length : Nat) : Int) ∧ J pre wr ∧ CipAt wr gc KK)
    (fun vn _ => 18446744073709551616 - (intOf vn).toNat)
  case atStart => exact ⟨[], by simpa using hfr, by simp, HJ1.out, HCIP.out⟩
  case round =>
    obtain ⟨pre, hp, rfl, hj, hc⟩ := hrel
    have HJ2 := Lib.hid hj
    have HC := Lib.hid hc
    clear hj hc
    obtain ⟨nn, hnn⟩ : ∃ nn, nn = fr + pre.length := ⟨_, rfl⟩
    rw [← hnn] at hp ⊢
    have HNN := Lib.hid hnn
    clear hnn
    have hct : ∀ u, Calls Try.prog 12 #[.int .u64 nn] u fun e w' => e = .returned (aggB (ctrL nn)) ∧ u.grownBy w' none := fun u => counter_n nn hp u
    have hxl := ctrL_len nn
    have hen : ∀ u, CipAt u gc KK → Calls Try.prog 38 #[.pointer (some ⟨gc, 0, none⟩), aggB (ctrL nn)] u fun e w' => e = .returned (.tuple #[aggB (encS KK (ctrL nn) 10), .int .i64 0]) ∧ u.grownBy w' none := fun u hu => encrypt_n gc KK (ctrL nn) HKL.out (ctrL_len nn) u hu
    have hyl : (encS KK (ctrL nn) 10).length = 16 := encS_len HKL.out hxl 10 (by omega)
    obtain ⟨y, hy⟩ : ∃ y, y = encS KK (ctrL nn) 10 := ⟨_, rfl⟩
    rw [← hy] at hen hyl
    obtain ⟨x, hx⟩ : ∃ x, x = ctrL nn := ⟨_, rfl⟩
    rw [← hx] at hen hct hy hxl
    have HEN := Lib.hid hen
    have HCT := Lib.hid hct
    have HXY := Lib.hid hy
    have HXX := Lib.hid hx
    have hks : y = ksB key nn := by unfold ksB; rw [← HKK.out, ← hx, ← hy]
    have HKS := Lib.hid hks
    clear hen hct hy hx hks
    gi_step
    gi_step
    gi_step
    gi_step
    refine wpIn_wide.2 (wp_region_lit ?_)
    go_wp2_with (first
      | (go_at_call 12; refine (HCT.out wr).mono ?_; rintro e W2 ⟨rfl, hg2⟩; have HC2 := Lib.hid (HC.out.grown hg2); have HG2 := Lib.hid hg2; clear hg2)
      | (go_at_call 38; refine (HEN.out _ HC2.out).mono ?_; rintro e W3 ⟨rfl, hg3⟩; have HC3 := Lib.hid (HC2.out.grown hg3); have HG3 := Lib.hid (grownBy_trans HG2.out hg3); clear hg3)
      | (refine wpList_fresh rfl rfl rfl rfl rfl hib hibz hibs (cellsB y) rfl rfl (by rw [cellsB_size, hyl]; rfl) (cellsB_one _) ?_; intro W4 hs4 hg4 hr4; have HC4 := Lib.hid (HC3.out.grown hg4); have HG4 := Lib.hid (grownBy_trans HG3.out hg4); have HR4 := Lib.hid hr4; clear hs4 hg4 hr4))
    have HY1 := HY.out pre ⟨nn, y⟩ wr W4 HJ2.out (HJ.out pre wr W4 none HJ2.out HG4.out (fun r e => by cases e)) (KeptC.of HG4.out) ⟨HNN.out, hp, HKS.out⟩
    obtain ⟨fn, tmps, assign, body, hy, hR⟩ := HY1
    have HR := Lib.hid hR
    clear hR
    dsimp only [Bk.vals, aggB] at hy
    gi_wp2_with (refine wpListIn_val rfl (fun c h => by cases h) (run_load_op W4 _ 24 (.tmp 6) rfl W3.heap.size rfl 24 (cellsB y) HR4.out Try.underlying24 rfl (by rw [cellsB_size, hyl]; kernel_rfl)) ?_)
    refine ⟨fun h => (by cases h), HR.out.mono ?_⟩
    rintro e W5 (⟨rfl, hJ5, hk5⟩ | ⟨rfl, hJx5⟩)
    · have HJ5 := Lib.hid hJ5
      have HC5 := Lib.hid (CipAt.keptAb hk5 (Nat.le_trans HSZ.out HGC.out) HC4.out)
      clear hJ5 hk5
      rcases Nat.decEq nn 18446744073709551615 with hne | rfl
      · have hd : decide ((nn : Int) = 18446744073709551615) = false := by simp; omega
        have hd2 : ((nn : Int) == 18446744073709551615) = false := by simp; omega
        have hd3 : decide (nn = 18446744073709551615) = false := by simp; omega
        have hwp : IntKind.u64.wrap ((nn : Int) + 1) = ((nn + 1 : Nat) : Int) := by
          rw [IntWalk.u64_in _ (by omega)]; omega
        gi_wp2
        refine ⟨⟨pre ++ [⟨nn, y⟩], ?_, ?_, HJ5.out, HC5.out⟩, ?_⟩
        · rw [List.length_append, List.length_singleton]; have := HNN.out; omega
        · rw [List.length_append, List.length_singleton]; have := HNN.out; exact congrArg _ (by omega)
        · simp only [intOf]; omega
      · gi_wp2
        refine bodyPost_ret (results_none rfl _ _ _) rfl ?_
        exact ⟨⟨_, rfl⟩, .inl ⟨_, by rw [List.length_append, List.length_singleton]; have := HNN.out; omega, HJ5.out⟩⟩
    · have HJ5 := Lib.hid hJx5
      clear hJx5
      gi_wp2
      refine bodyPost_ret (results_none rfl _ _ _) rfl ?_
      exact ⟨⟨_, rfl⟩, .inr ⟨_, trivial, HJ5.out⟩⟩

/-- ctr.Blocks -/
theorem blocks_n (key : List UInt8) (hkl : key.length = 16) (fr : Nat) (w : World) :
    Calls Try.prog 15 #[aggB key, .int .u64 (fr : Int)] w fun e w' => ∃ b1 b2, e = .returned (.func (.func 36) #[] #[.pointer (some ⟨b1, 0, none⟩), .pointer (some ⟨b2, 0, none⟩)]) ∧
      Blk w' b1 27 key ∧ Row w' b2 22 #[.int .u64 (fr : Int)] ∧ b1 < b2 ∧ w.heap.size ≤ b1 ∧ w.grownBy w' none := by
  unfold aggB
  go_enter Try.func15, Try.ntmps15
  go_wp2_with (first
    | (refine wpList_boxed rfl rfl (cellsB key) rfl ?_; intro W1 hs1 hg1 hr1; have HS1 := Lib.hid hs1; have HG1 := Lib.hid hg1; have HR1 := Lib.hid hr1; clear hs1 hg1 hr1)
    | (refine wpList_box1 rfl rfl (.int .u64 (fr : Int)) rfl rfl ?_; intro W2 hs2 hg2 hr2; have HG2 := Lib.hid hg2; have HR2 := Lib.hid hr2; clear hs2 hg2 hr2))
  go_ret
  exact ⟨_, _, rfl, Row.grown HR1.out HG2.out, HR2.out, by rw [HS1.out]; exact Nat.lt_succ_self _, Nat.le_refl _, grownBy_trans HG1.out HG2.out⟩

end Go.Proofs.Ytblgdfamomlklaa
/- The keystream in plain Lean: pieces of blocks. -/
namespace Go.Proofs.Ytblgdfamomlklaa

/-- n bytes from a place on, out of blocks of sixteen -/
def kst (B : Nat → List UInt8) (p n : Nat) : List UInt8 := (List.range n).map fun i => (B ((p + i) / 16)).getD ((p + i) % 16) 0
theorem kst_len (B : Nat → List UInt8) (p n : Nat) : (kst B p n).length = n := by simp [kst]
theorem kst_get (B : Nat → List UInt8) (p n i : Nat) (h : i < n) : (kst B p n)[i]? = some ((B ((p + i) / 16)).getD ((p + i) % 16) 0) := by
  simp [kst, h]
/-- what is done when k blocks have come -/
def dnN (s n k : Nat) : Nat := min n (16 * k - s)
def skN (s k : Nat) : Nat := if k = 0 then s else 0
theorem dn_zero (s n : Nat) : dnN s n 0 = 0 := by simp [dnN]
theorem sk_lt {s : Nat} (hs : s < 16) (k : Nat) : skN s k < 16 := by unfold skN; split <;> omega
theorem sk_succ (s k : Nat) : skN s (k + 1) = 0 := by simp [skN]
theorem dn_succ {s n k : Nat} (hs : s < 16) (hd : dnN s n k < n) : dnN s n k + min (16 - skN s k) (n - dnN s n k) = dnN s n (k + 1) := by
  unfold dnN skN at *
  split
  · rename_i h; subst h; omega
  · rw [Nat.lt_iff_add_one_le] at hd; omega
theorem dn_fill {s n k : Nat} (hs : s < 16) (hk : n + 16 ≤ 16 * k) : dnN s n k = n := by unfold dnN; omega
/-- the piece that a block adds -/
theorem kst_piece (B : Nat → List UInt8) (hB : ∀ j, (B j).length = 16) {p n fr s k : Nat} (hp : p = 16 * fr + s) (hs : s < 16) (hd : dnN s n k < n) (i : Nat) (hi : i < min (16 - skN s k) (n - dnN s n k)) :
    ((B (fr + k)).drop (skN s k))[i]? = (kst B p n)[dnN s n k + i]? := by
  rw [kst_get _ _ _ _ (by omega), List.getElem?_drop]
  have e1 : (p + (dnN s n k + i)) / 16 = fr + k ∧ (p + (dnN s n k + i)) % 16 = skN s k + i := by
    unfold dnN skN at *
    split at hi
    · rename_i h
      subst h
      rw [if_pos rfl]
      have : (p + (min n (16 * 0 - s) + i)) = 16 * fr + (s + i) := by omega
      rw [this]
      omega
    · rename_i h
      rw [if_neg h]
      have : (p + (min n (16 * k - s) + i)) = 16 * (fr + k) + i := by omega
      rw [this]
      omega
  rw [e1.1, e1.2]
  have hl : skN s k + i < (B (fr + k)).length := by rw [hB]; omega
  rw [List.getD_eq_getElem?_getD, List.getElem?_eq_getElem hl]
  rfl

/-- what lies in the room when d bytes of n are done -/
def filL (X : List UInt8) (d : Nat) : List UInt8 := X.take d ++ List.replicate (X.length - d) 0
theorem filL_len (X : List UInt8) (d : Nat) (h : d ≤ X.length) : (filL X d).length = X.length := by simp [filL]; omega
theorem filL_zero (X : List UInt8) : filL X 0 = List.replicate X.length 0 := by simp [filL]
theorem filL_all (X : List UInt8) : filL X X.length = X := by simp [filL]
/-- a piece laid into it -/
theorem filL_lay (X : List UInt8) (d : Nat) (cs : List UInt8) (h : d + cs.length ≤ X.length) (he : ∀ i, i < cs.length → cs[i]? = X[d + i]?) :
    (filL X d).take d ++ (cs ++ (filL X d).drop (d + cs.length)) = filL X (d + cs.length) := by
  have hc : cs = (X.drop d).take cs.length := by
    apply List.ext_getElem?
    intro i
    by_cases hi : i < cs.length
    · rw [he i hi, List.getElem?_take, if_pos hi, List.getElem?_drop]
    · rw [List.getElem?_eq_none (by omega), List.getElem?_eq_none (by simp; omega)]
  have e1 : (filL X d).take d = X.take d := by
    unfold filL
    rw [List.take_append_of_le_length (by simp; omega), List.take_take, Nat.min_self]
  have e2 : (filL X d).drop (d + cs.length) = List.replicate (X.length - (d + cs.length)) 0 := by
    unfold filL
    rw [List.drop_append, List.drop_eq_nil_of_le (by simp; omega), List.nil_append, List.drop_replicate, List.length_take]
    congr 1
    omega
  rw [e1, e2, ← List.append_assoc]
  unfold filL
  congr 1
  conv => lhs; rw [hc]
  rw [← List.take_add]
end Go.Proofs.Ytblgdfamomlklaa
/- The caller's law where the assignment to the loop's variables makes memory. -/
namespace Go.Proofs.Ytblgdfamomlklaa
open Go.RowKit Go.Shelf
variable {F : Fence} {n : Nat} {P : Program}

set_option maxHeartbeats 1000000 in
/-- the caller's law, the assignment making memory -/
theorem wpIn_rangeOkH {α : Type} {g : Operand} {ps : Array Tmp} {assign body : Code} {Q : Exit → Act → World → Prop} {a : Act} {w : World}
    (hro : F.round = none) (h1 : 1 ≤ n) {gf : Nat} {lb : Array Value} (hg : a.eval g = .func (.func gf) #[] lb) (hFg : F.fn gf) (eg : ∀ args w, (callFunc gf args).run P w = .ok (.enter gf args) w)
    {encs : α → Array Value} {Kp : World → World → Prop} {Ok : List α → α → World → World → Prop} {S Sp : List α → Prop} {w0 : World} (hseq : SeqOk F (n - 1) P gf lb encs Kp Ok S Sp w0)
    (hKt : ∀ {A B C : World}, Kp A B → Kp B C → Kp A C) (hKb : ∀ (W : World) (l : Nat) (o o' : Obj), w.heap.size ≤ l → W.heap[l]? = some o → o.isCells = false → o.isWalk = false → Kp W (W.putObj l o'))
    (Ax : List α → α → World → Act → World → Prop) (hAx : ∀ pre x (W0 : World) (a' : Act) (W : World) (l : Nat) (o o' : Obj), Ax pre x W0 a' W → W.heap[l]? = some o → o.isCells = false → Ax pre x W0 a' (W.putObj l o'))
    (hb0 : Below w0.heap.size w0 w) (hps : ∀ x, (encs x).size = ps.size)
    (I : List α → World → Prop) (Ix : Code → List α → World → Prop) (hI : OwnFrom w.heap.size I) (hIx : ∀ c, OwnFrom w.heap.size (Ix c)) (h0 : I [] w)
    (hassign : ∀ (l : Nat) (pre : List α) (x : α) (W0 W : World) (K : Act → World → Prop), I pre W0 → I pre W → KeptC W0 W → Ok pre x W0 W → (∀ (a' : Act) (W' : World), KeepsFrom w.heap.size W W' → Kp W W' → I pre W' → Ax pre x W0 a' W' → K a' W') →
      assign.wpIn (F.inRound l) (n - 1 - 1) P (Exit.then K (fun _ _ _ => False)) { tmps := (ps.zip (encs x)).foldl (fun t (p, v) => t.setIfInBounds p v) a.tmps, defers := [] } W)
    (hbody : ∀ (l : Nat) (pre : List α) (x : α) (W0 : World) (a' : Act) (W : World), I pre W → Ax pre x W0 a' W → body.wpIn (F.inRound l) (n - 1 - 1) P (ownPostG w.heap.size Kp I Ix (pre ++ [x]) W) a' W)
    (hdone : ∀ (D : Nat) (xs : List α) (W : World), w.heap.size ≤ D → S xs → I xs W → W.heap[D]? = some (.deferred (some [])) → Q .normal { a with defers := { target := .collected D, args := #[] } :: a.defers } W)
    (hstop : ∀ (D : Nat) (c : Code) (pre : List α) (W : World), w.heap.size ≤ D → Sp pre → Ix c pre W → W.heap[D]? = some (.deferred (some [])) → c.wpIn F n P Q { a with defers := { target := .collected D, args := #[] } :: a.defers } W) :
    (Code.rangeFunc g ps assign body).wpIn F n P Q a w := by
  refine wpIn_rangeFunc fun fn hfn => ?_
  rw [hro]
  -- D the block for the rounds' deferred calls, R the loop's record
  obtain ⟨D, hD⟩ : ∃ D, D = w.heap.size := ⟨_, rfl⟩
  obtain ⟨rec, hrec⟩ : ∃ rec : LoopState → Option Code → Loop, rec = fun st pe => { state := st, pending := pe, fn, tmps := a.tmps, params := ps, assign, body, defers := D } := ⟨_, rfl⟩
  obtain ⟨V, hV⟩ : ∃ V, V = (w.alloc (.deferred (some []))).alloc (.loop (rec .ready none)) := ⟨_, rfl⟩
  have hsz : V.heap.size = D + 2 := by rw [hV, hD]; simp
  have hrun : (Instr.enterLoop fn a.tmps ps assign body none).run P w = .ok (D + 1, [{ target := .collected D, args := #[] }]) V := by
    rw [hV, hrec, hD]; exact run_enterLoop_outer _ _ _ _ _
  have hVl : V.heap[D + 1]? = some (.loop (rec .ready none)) := by
    have h := World.alloc_heap_new (w.alloc (.deferred (some []))) (.loop (rec .ready none))
    rw [World.size_alloc, ← hD] at h
    rw [hV]; exact h
  have hVd : V.heap[D]? = some (.deferred (some [])) := by
    rw [hV, hD]; exact (Below.heap_alloc _ _ _ (by simp)).trans (World.alloc_heap_new w _)
  have hVI : I [] V := by rw [hV]; exact hI.alloc _ (hI.alloc _ h0)
  have hVb : Below w0.heap.size w0 V := by
    rw [hV]; exact hb0.trans ((((Below.refl _ w).alloc (Nat.le_refl _) _).alloc (by simp) _).mono hb0.size)
  have hDw : w.heap.size ≤ D := by omega
  clear hV
  -- the two facts of the law's own, kept by what turns other blocks
  have two : ∀ {A B : World} {row : Option Nat} (o1 o2 : Obj), o1.isCells = false → o2.isCells = false → o1.isWalk = false → o2.isWalk = false → A.grownBy B row → (∀ r, row = some r → V.heap.size ≤ r ∧ ∃ o : Obj, A.heap[r]? = some o ∧ o.isWalk = true) →
      A.heap[D + 1]? = some o1 → A.heap[D]? = some o2 → B.heap[D + 1]? = some o1 ∧ B.heap[D]? = some o2 := by
    intro A B row o1 o2 _ _ _ _ hgr hr e1 e2
    have ne : ∀ k, k < V.heap.size → row ≠ some k := fun k hk e => by have := (hr k e).1; omega
    have h1 := (Array.getElem?_eq_some_iff.1 e1).1
    have h2 := (Array.getElem?_eq_some_iff.1 e2).1
    exact ⟨(hgr.block _ h1 (Ne.symm (ne (D + 1) (by omega)))).trans e1, (hgr.block _ h2 (Ne.symm (ne D (by omega)))).trans e2⟩
  have nw : ∀ {A : World} {row : Option Nat}, (∀ r, row = some r → V.heap.size ≤ r ∧ ∃ o : Obj, A.heap[r]? = some o ∧ o.isWalk = true) → (∀ r, row = some r → w.heap.size ≤ r ∧ ∃ o : Obj, A.heap[r]? = some o ∧ o.isCells = false) :=
    fun hr r e => by obtain ⟨hB, o, ho, hw⟩ := hr r e; exact ⟨by omega, o, ho, Obj.not_cells_of_walk hw⟩
  refine ⟨D + 1, _, V, { target := .fn (.func gf) lb, args := #[.func (.yield (D + 1)) #[] #[]] }, V, gf, #[.func (.yield (D + 1)) #[] #[]] ++ lb, V, hrun, ?_, ?_, ?_, fun _ => h1, ?_⟩
  · simp only [resolve, hg]
    simp [go_sem]
  · intro f' hf'
    simp [Target.leads] at hf'
    subst hf'
    exact hFg
  · simp [invoke, go_sem, eg]
  refine CallsIn.mono (hseq (D + 1) (fun pre W => I pre W ∧ W.heap[D + 1]? = some (.loop (rec .ready none)) ∧ W.heap[D]? = some (.deferred (some [])))
    (fun pre W => ∃ c, Ix c pre W ∧ W.heap[D + 1]? = some (.loop (rec .done (some c))) ∧ W.heap[D]? = some (.deferred (some []))) V hVb
    (fun s A B row hs hgr hr => ⟨hI s A B row hs.1 hgr (nw hr), two _ _ rfl rfl rfl rfl hgr hr hs.2.1 hs.2.2⟩)
    (fun s A B row ⟨c, hc, e1, e2⟩ hgr hr => ⟨c, hIx c s A B row hc hgr (nw hr), two _ _ rfl rfl rfl rfl hgr hr e1 e2⟩) ?_ ⟨hVI, hVl, hVd⟩) ?_
  · rintro pre x W0 W ⟨hi0, _, _⟩ ⟨hi, hl, hk⟩ hkc hok
    have hy := run_yield (P := P) (args := encs x) hl (by rw [hrec]; exact hps x)
    rw [hrec] at hy
    refine ⟨fn, _, assign, body, hy, roundIn_of_wpIn hfn (hassign _ pre x W0 W _ hi0 hi hkc hok (fun a' W' hkf hkp hi' hax => ?_))⟩
    have hl2 : W'.heap[D + 1]? = some (.loop (rec .ready none)) := hkf.same _ _ (by omega) hl (by rw [hrec]; rfl)
    have hk2 := hkf.same _ _ hDw hk rfl
    obtain ⟨U, hU⟩ : ∃ U, U = W'.putObj (D + 1) (.loop { rec .ready none with state := .busy }) := ⟨_, rfl⟩
    have hbeg : (Instr.beginRound (D + 1)).run P W' = .ok () U := by rw [hU]; exact run_beginRound hl2 (by rw [hrec])
    refine ⟨U, hbeg, ?_⟩
    have hUl : U.heap[D + 1]? = some (.loop { rec .ready none with state := .busy }) := by rw [hU]; exact World.putObj_heap_same (Array.getElem?_eq_some_iff.1 hl2).1
    have hUd : U.heap[D]? = some (.deferred (some [])) := by rw [hU]; exact (World.putObj_heap_other (by omega)).trans hk2
    have hUK : Kp W U := hKt hkp (by rw [hU]; exact hKb _ _ _ _ (by omega) hl2 (by rw [hrec]; rfl) (by rw [hrec]; rfl))
    have hUI : I pre U := by rw [hU]; exact hI.putObj _ hi' (by omega) hl2 (by rw [hrec]; rfl)
    have hUA : Ax pre x W0 a' U := by rw [hU]; exact hAx _ _ _ _ _ _ _ _ hax hl2 (by rw [hrec]; rfl)
    clear hU hbeg
    refine wpIn_mono (hbody _ pre x W0 a' U hUI hUA) ?_
    -- the round's end
    have fin : ∀ (j : Option Code) (X : World), KeepsFrom w.heap.size U X → ∃ Y, Y = X.putObj (D + 1) (.loop (rec (if j.isNone then .ready else .done) j)) ∧
        (Instr.endRound (D + 1) j).run P X = .ok (.bool j.isNone) Y ∧ X.heap[D + 1]? = some (.loop { rec .ready none with state := .busy }) ∧ Y.heap[D + 1]? = some (.loop (rec (if j.isNone then .ready else .done) j)) ∧ Y.heap[D]? = some (.deferred (some [])) := by
      intro j X hX
      have e1 := hX.same _ _ (by omega) hUl rfl
      have e2 := hX.same _ _ hDw hUd rfl
      have hr := run_endRound (P := P) j e1
      rw [hrec] at hr
      refine ⟨_, rfl, ?_, e1, World.putObj_heap_same (Array.getElem?_eq_some_iff.1 e1).1, (World.putObj_heap_other (by omega)).trans e2⟩
      rw [hrec]
      exact hr
    have leave : ∀ (c : Code) (X : World), KeepsFrom w.heap.size U X → Ix c (pre ++ [x]) X → ∃ Y, (Instr.endRound (D + 1) (some c)).run P X = .ok (.bool false) Y ∧ Ix c (pre ++ [x]) Y ∧ Y.heap[D + 1]? = some (.loop (rec .done (some c))) ∧ Y.heap[D]? = some (.deferred (some [])) := by
      intro c X hX hx
      obtain ⟨Y, hY, hr, e0, e1, e2⟩ := fin (some c) X hX
      refine ⟨Y, hr, ?_, e1, e2⟩
      rw [hY]
      exact (hIx c).putObj _ hx (by omega) e0 rfl
    rintro e a3 X hp
    cases e with
    | normal =>
      obtain ⟨hX, hXK, hXI⟩ := hp
      obtain ⟨Y, hY, hr, e0, e1, e2⟩ := fin none X hX
      refine ⟨_, _, hr, .inl ⟨rfl, ⟨?_, e1, e2⟩, ?_⟩⟩
      · rw [hY]; exact hI.putObj _ hXI (by omega) e0 rfl
      · rw [hY]; exact hKt (hKt hUK hXK) (hKb _ _ _ _ (by omega) e0 rfl rfl)
    | ret => obtain ⟨Y, hr, h2, h3, h4⟩ := leave .ret X hp.1 hp.2; exact ⟨_, _, hr, .inr ⟨rfl, .ret, h2, h3, h4⟩⟩
    | exit id => obtain ⟨Y, hr, h2, h3, h4⟩ := leave (.exit id) X hp.1 hp.2; exact ⟨_, _, hr, .inr ⟨rfl, .exit id, h2, h3, h4⟩⟩
    | goto t => obtain ⟨Y, hr, h2, h3, h4⟩ := leave (.goto t) X hp.1 hp.2; exact ⟨_, _, hr, .inr ⟨rfl, .goto t, h2, h3, h4⟩⟩
    | panic ch => exact hp.elim
    | outgrown => exact hp.elim
  · rintro e X ⟨⟨v, rfl⟩, (⟨xs, hS, hi, hl, hk⟩ | ⟨pre, hSp, c, hi, hl, hk⟩)⟩
    · have hr := run_endLoop (P := P) hl (by rw [hrec]; simp)
      rw [hrec] at hr
      exact ⟨none, _, hr, hdone _ xs _ hDw hS (hI.putObj _ hi (by omega) hl rfl) ((World.putObj_heap_other (by omega)).trans hk)⟩
    · have hr := run_endLoop (P := P) hl (by rw [hrec]; simp)
      rw [hrec] at hr
      exact ⟨some c, _, hr, hstop _ c pre _ hDw hSp ((hIx c).putObj _ hi (by omega) hl rfl) ((World.putObj_heap_other (by omega)).trans hk)⟩


/-- .. what is told of the act behind the assignment told by the act ahead -/
theorem wpIn_rangeOkHA {α : Type} {g : Operand} {ps : Array Tmp} {assign body : Code} {Q : Exit → Act → World → Prop} {a : Act} {w : World}
    (hro : F.round = none) (h1 : 1 ≤ n) {gf : Nat} {lb : Array Value} (hg : a.eval g = .func (.func gf) #[] lb) (hFg : F.fn gf) (eg : ∀ args w, (callFunc gf args).run P w = .ok (.enter gf args) w)
    {encs : α → Array Value} {Kp : World → World → Prop} {Ok : List α → α → World → World → Prop} {S Sp : List α → Prop} {w0 : World} (hseq : SeqOk F (n - 1) P gf lb encs Kp Ok S Sp w0)
    (hKt : ∀ {A B C : World}, Kp A B → Kp B C → Kp A C) (hKb : ∀ (W : World) (l : Nat) (o o' : Obj), w.heap.size ≤ l → W.heap[l]? = some o → o.isCells = false → o.isWalk = false → Kp W (W.putObj l o'))
    (Ax : Array Value → List α → α → World → Act → World → Prop) (hAx : ∀ t pre x (W0 : World) (a' : Act) (W : World) (l : Nat) (o o' : Obj), Ax t pre x W0 a' W → W.heap[l]? = some o → o.isCells = false → Ax t pre x W0 a' (W.putObj l o'))
    (hb0 : Below w0.heap.size w0 w) (hps : ∀ x, (encs x).size = ps.size)
    (I : List α → World → Prop) (Ix : Code → List α → World → Prop) (hI : OwnFrom w.heap.size I) (hIx : ∀ c, OwnFrom w.heap.size (Ix c)) (h0 : I [] w)
    (hassign : ∀ (l : Nat) (pre : List α) (x : α) (W0 W : World) (K : Act → World → Prop), I pre W0 → I pre W → KeptC W0 W → Ok pre x W0 W → (∀ (a' : Act) (W' : World), KeepsFrom w.heap.size W W' → Kp W W' → I pre W' → Ax a.tmps pre x W0 a' W' → K a' W') →
      assign.wpIn (F.inRound l) (n - 1 - 1) P (Exit.then K (fun _ _ _ => False)) { tmps := (ps.zip (encs x)).foldl (fun t (p, v) => t.setIfInBounds p v) a.tmps, defers := [] } W)
    (hbody : ∀ (l : Nat) (pre : List α) (x : α) (W0 : World) (a' : Act) (W : World), I pre W → Ax a.tmps pre x W0 a' W → body.wpIn (F.inRound l) (n - 1 - 1) P (ownPostG w.heap.size Kp I Ix (pre ++ [x]) W) a' W)
    (hdone : ∀ (D : Nat) (xs : List α) (W : World), w.heap.size ≤ D → S xs → I xs W → W.heap[D]? = some (.deferred (some [])) → Q .normal { a with defers := { target := .collected D, args := #[] } :: a.defers } W)
    (hstop : ∀ (D : Nat) (c : Code) (pre : List α) (W : World), w.heap.size ≤ D → Sp pre → Ix c pre W → W.heap[D]? = some (.deferred (some [])) → c.wpIn F n P Q { a with defers := { target := .collected D, args := #[] } :: a.defers } W) :
    (Code.rangeFunc g ps assign body).wpIn F n P Q a w :=
  wpIn_rangeOkH hro h1 hg hFg eg hseq hKt hKb (Ax a.tmps) (hAx a.tmps) hb0 hps I Ix hI hIx h0 hassign hbody hdone hstop

end Go.Proofs.Ytblgdfamomlklaa
/- The function that octet.Chunks gives: what it tells. -/
namespace Go.Proofs.Ytblgdfamomlklaa
open Go.RowKit Go.Shelf
attribute [local go_sem] Oper.semAt_some

set_option maxRecDepth 100000 in
set_option maxHeartbeats 400000 in
theorem chunks1_in (m : Nat) (B b1 b2 : Nat) (z : Int) (ao : Option Addr) (n co : Nat) (l : List UInt8) (w : World) (hc : Chk w B b1 b2 z ao n co l) (hn : n ≤ 4000000000) :
    SeqOk Fence.wide m Try.prog 68 #[.pointer (some ⟨b1, 0, none⟩), .pointer (some ⟨b2, 0, none⟩)] Pce.vals (KeptS (Chk.S b1 b2 ao co)) (ChOk (chL z l))
      (fun xs => xs.map Pce.pr = chL z l) (fun pre => ∃ r, pre.map Pce.pr ++ r = chL z l) w := by
  intro lp J Jx W hW hJ hJx hY h0
  have HC : Hid (Chk W B b1 b2 z ao n co l) := Lib.hid (hc.kept ⟨hW.size, fun k hk hl => hW.block k hl⟩)
  have HY := Lib.hid hY
  have HJ := Lib.hid hJ
  have HJ0 := Lib.hid h0
  have HLN := Lib.hid (BOwn.len hc.own)
  clear hW hc hY hJ hJx h0
  have c1 := Row.cell HC.out.size 0
  have c2 := Row.cell HC.out.box 0
  simp at c1 c2
  refine callsIn_of_wp Try.func68 rfl trivial ?_ rfl
  simp only [Try.ntmps68, List.size_toArray, List.length_cons, List.length_nil, Nat.reduceAdd, Nat.reduceSub, Array.replicate_succ, Array.replicate_zero, List.push_toArray, List.append_toArray, List.nil_append, List.cons_append]
  by_cases hz : z < 1
  · have hch : chL z l = [] := if_pos hz
    have hd : decide (z < 1) = true := by simpa using hz
    gi_wp2
    refine bodyPost_ret (results_none rfl _ _ _) rfl ?_
    exact ⟨⟨_, rfl⟩, .inl ⟨[], by rw [hch]; rfl, HJ0.out⟩⟩
  · obtain ⟨s, rfl⟩ : ∃ s : Nat, z = (s : Int) := ⟨z.toNat, by omega⟩
    have hs1 : 1 ≤ s := by omega
    have hd : decide ((s : Int) < 1) = false := by simp; omega
    have hch : chL (s : Int) l = chs (s - 1) 0 l := by
      unfold chL
      rw [if_neg (by omega)]
      congr 1
    obtain ⟨all, hall⟩ : ∃ all, all = chL (s : Int) l := ⟨_, rfl⟩
    obtain ⟨Z, hZ⟩ : ∃ Z, Z = s - 1 := ⟨_, rfl⟩
    rw [← hall] at HY ⊢
    rw [← hall, ← hZ] at hch
    have HCH := Lib.hid hch
    have HZ := Lib.hid hZ
    clear hch hz hZ hall
    gi_wp2
    clear c1 c2
    gi_loopw [4] (fun vp wr => ∃ (p : Nat) (pre : List Pce), p ≤ n ∧ vp = .int .i64 p ∧ J pre wr ∧ Chk wr B b1 b2 (s : Int) ao n co l ∧ Hid (pre.map Pce.pr ++ chs Z p (l.drop p) = all))
      (fun vp _ => n - (intOf vp).toNat)
    case atStart => exact ⟨0, [], Nat.zero_le _, rfl, HJ0.out, HC.out, Lib.hid (by rw [HCH.out]; simp)⟩
    case round =>
      obtain ⟨p, pre, hp, rfl, hj, hc, HP⟩ := hrel
      have HJ1 := Lib.hid hj
      replace HC := Lib.hid hc
      have c1 := Row.cell hc.size 0
      have c2 := Row.cell hc.box 0
      have hcap := hc.own.cap
      simp at c1 c2
      clear hj hc
      by_cases hlt : p < n
      · obtain ⟨g, rfl, hg1, hg2⟩ := Own.block HC.out.own (by omega)
        have hdl : (l.drop p).length = n - p := by rw [List.length_drop, HLN.out]
        have hne : l.drop p ≠ [] := fun e => by rw [e] at hdl; simp at hdl; omega
        obtain ⟨mm, hmm⟩ : ∃ mm, mm = min s (n - p) := ⟨_, rfl⟩
        have hm1 : 1 ≤ mm := by omega
        have hm2 : p + mm ≤ n := by omega
        have hp2 := HP.out
        rw [chs_cons hne, hdl, HZ.out, show s - 1 + 1 = s by omega, ← hmm, List.drop_drop] at hp2
        have ht : (l.drop p).take s = (l.drop p).take mm := by
          rw [hmm]
          rcases Nat.lt_or_ge s (n - p) with h | h
          · rw [Nat.min_eq_left (by omega)]
          · rw [Nat.min_eq_right h, List.take_of_length_le (by omega), List.take_of_length_le (by omega)]
        have hdd : l.drop (p + s) = l.drop (p + mm) := by
          rcases Nat.lt_or_ge s (n - p) with h | h
          · rw [hmm, Nat.min_eq_left (by omega)]
          · rw [List.drop_eq_nil_of_le (by rw [HLN.out]; omega), List.drop_eq_nil_of_le (by rw [HLN.out]; omega)]
        rw [ht, hdd, ← HZ.out] at hp2
        have HP2 := Lib.hid hp2
        have hbl : BLies wr (some ⟨g, 0 + p, none⟩) (l.drop p) := drop_lies (BOwn.lies HC.out.own) p
        rw [Nat.zero_add] at hbl
        have HBL := Lib.hid (hbl.take mm)
        have hbn : ((l.drop p).take mm).length = mm := by rw [List.length_take, hdl]; omega
        have HBN := Lib.hid hbn
        have HM := Lib.hid hmm
        have hcp : p < co := by omega
        have hcs : co - p ≠ 0 := by omega
        have HWP : Hid (wrap64 ((p : Int) + (mm : Int)) = ((p + mm : Nat) : Int)) := by
          unfold Hid
          rw [IntWalk.wrap64_in _ (by omega)]; omega
        obtain ⟨q, hqq⟩ : ∃ q : Nat, q = n - p := ⟨_, rfl⟩
        have HW : Hid (IntKind.i64.wrap ((n : Int) - (p : Int)) = (q : Int)) := by
          unfold Hid
          rw [IntWalk.i64_in _ (by omega)]; omega
        have hd2 : decide ((p : Int) < (n : Int)) = true := by simp; omega
        have hd3 : decide (p < n) = true := by simp; omega
        clear hp2 ht hdd hbl hbn hne hdl
        rcases Nat.lt_or_ge q s with hq | hq
        · have he : mm = q := by omega
          have hlq : (q : Int) < (s : Int) := by omega
          have hw := HW.out
          have hwp := HWP.out
          have hpm : p + mm - p = mm := Nat.add_sub_cancel_left _ _
          clear hmm hqq hq HW HWP
          subst he
          gi_wp2_with (refine ⟨trivial, fun h => (by cases h), ?_⟩; gi_at_call 67; refine (callsIn_wide.2 (clone_n _ _ mm _ wr HBL.out HBN.out (by omega))).mono ?_; rintro e w1 ⟨a1, c1', rfl, ho, hg⟩; have HO := Lib.hid ho; have HG := Lib.hid hg; have HY1 := Lib.hid (HY.out pre ⟨p, ⟨a1, mm, c1'⟩, (l.drop p).take mm⟩ wr w1 HJ1.out (HJ.out pre wr w1 none HJ1.out hg (fun r e => by cases e)) (KeptC.of hg) ⟨⟨_, HP2.out⟩, ho⟩); clear ho hg; obtain ⟨fn, tmps, assign, body, hy, hR⟩ := HY1.out; have HR := Lib.hid hR; clear hR; dsimp only [Pce.vals, Sl.val] at hy)
          clear hw
          refine ⟨fun h => (by cases h), HR.out.mono ?_⟩
          rintro e W3 (⟨rfl, hJ3, hk3⟩ | ⟨rfl, hJx3⟩)
          · have HJ3 := Lib.hid hJ3
            have hc3 := (HC.out.kept (KeptS.of HG.out)).kept hk3
            have HC3 := Lib.hid hc3
            clear hJ3 hk3 hc3
            gi_wp2
            clear hwp hpm hlq hcs hcp hcap hd hd2 hd3
            refine ⟨⟨p + mm, _, hm2, by simp, HJ3.out, HC3.out, Lib.hid (by rw [List.map_append, List.append_assoc]; exact HP2.out)⟩, ?_⟩
            simp only [intOf]
            omega
          · have HJ3 := Lib.hid hJx3
            clear hJx3
            gi_wp2
            refine bodyPost_ret (results_none rfl _ _ _) rfl ?_
            exact ⟨⟨_, rfl⟩, .inr ⟨_, ⟨_, by rw [List.map_append, List.append_assoc]; exact HP2.out⟩, HJ3.out⟩⟩
        · have he : mm = s := by omega
          have hlq : ((q : Int) < (s : Int)) = False := eq_false (by omega)
          have hlq2 : (q < s) = False := eq_false (by omega)
          have hw : (n : Int) - (p : Int) = (q : Int) := by omega
          have hwp := HWP.out
          have hpm : p + mm - p = mm := Nat.add_sub_cancel_left _ _
          clear hmm hqq hq HW HWP
          subst he
          gi_wp2_with (refine ⟨trivial, fun h => (by cases h), ?_⟩; gi_at_call 67; refine (callsIn_wide.2 (clone_n _ _ mm _ wr HBL.out HBN.out (by omega))).mono ?_; rintro e w1 ⟨a1, c1', rfl, ho, hg⟩; have HO := Lib.hid ho; have HG := Lib.hid hg; have HY1 := Lib.hid (HY.out pre ⟨p, ⟨a1, mm, c1'⟩, (l.drop p).take mm⟩ wr w1 HJ1.out (HJ.out pre wr w1 none HJ1.out hg (fun r e => by cases e)) (KeptC.of hg) ⟨⟨_, HP2.out⟩, ho⟩); clear ho hg; obtain ⟨fn, tmps, assign, body, hy, hR⟩ := HY1.out; have HR := Lib.hid hR; clear hR; dsimp only [Pce.vals, Sl.val] at hy)
          clear hw
          refine ⟨fun h => (by cases h), HR.out.mono ?_⟩
          rintro e W3 (⟨rfl, hJ3, hk3⟩ | ⟨rfl, hJx3⟩)
          · have HJ3 := Lib.hid hJ3
            have hc3 := (HC.out.kept (KeptS.of HG.out)).kept hk3
            have HC3 := Lib.hid hc3
            clear hJ3 hk3 hc3
            gi_wp2
            clear hwp hpm hlq hcs hcp hcap hd hd2 hd3
            refine ⟨⟨p + mm, _, hm2, by simp, HJ3.out, HC3.out, Lib.hid (by rw [List.map_append, List.append_assoc]; exact HP2.out)⟩, ?_⟩
            simp only [intOf]
            omega
          · have HJ3 := Lib.hid hJx3
            clear hJx3
            gi_wp2
            refine bodyPost_ret (results_none rfl _ _ _) rfl ?_
            exact ⟨⟨_, rfl⟩, .inr ⟨_, ⟨_, by rw [List.map_append, List.append_assoc]; exact HP2.out⟩, HJ3.out⟩⟩
      · obtain rfl : p = n := by omega
        have hpe := HP.out
        rw [List.drop_eq_nil_of_le (by rw [HLN.out]; exact Nat.le_refl _), chs_nil, List.append_nil] at hpe
        have HPE := Lib.hid hpe
        clear hpe
        gi_wp2
        go_end0
        exact ⟨⟨_, rfl⟩, .inl ⟨pre, HPE.out, HJ1.out⟩⟩

end Go.Proofs.Ytblgdfamomlklaa
/- octet.Xor. -/
namespace Go.Proofs.Ytblgdfamomlklaa
open Go.RowKit Go.Shelf
attribute [local go_sem] Oper.semAt_some

/-- a contract from a body that ranges over a function; the walk is the plain one -/
theorem calls_of_wp_marks {P : Program} {f : FuncId} {fn : Func} {c : Code} {args : Array Value} {w : World} {R : Ending → World → Prop} (hf : P.funcs[f]? = some fn) (hb : fn.body = some c)
    (h : c.wp P (bodyPostM Fence.wide 3 P fn R) { tmps := args ++ Array.replicate (fn.ntmps - args.size) undef, defers := [] } w) : Calls P f args w R :=
  (callsIn_wide (n := 3)).1 (callsIn_of_wp_marks hf hb trivial (wpIn_wide.2 h) rfl)
theorem xor_u8' (a b : UInt8) : bits .xor .u8 (a.toNat : Int) (b.toNat : Int) = ((a ^^^ b).toNat : Int) := by
  rw [u8_xor_nat _ _ a.toNat_lt b.toNat_lt, UInt8.toNat_xor]

/-- what a turn of another block, no cells, leaves -/
theorem Row.nc {A B : World} {g : Nat} {t : TypeId} {cs : Array Value} {row : Option Nat} {b0 : Nat} (h : Row A g t cs) (hg : A.grownBy B row) (hr : ∀ r, row = some r → b0 ≤ r ∧ ∃ o : Obj, A.heap[r]? = some o ∧ o.isCells = false) : Row B g t cs := by
  refine (hg.block g h.lt (fun e => ?_)).trans h
  obtain ⟨_, o, ho, hc⟩ := hr g e.symm
  have h' : A.heap[g]? = some (.cells cs t (0, 0)) := h
  rw [h'] at ho
  injection ho with ho
  subst ho
  cases hc
theorem Own.nc {A B : World} {base : Nat} {e : TypeId} {size : Nat} {a : Option Addr} {n c : Nat} {xs : List Value} {row : Option Nat} {b0 : Nat} (h : Own A base e size a n c xs) (hg : A.grownBy B row) (hr : ∀ r, row = some r → b0 ≤ r ∧ ∃ o : Obj, A.heap[r]? = some o ∧ o.isCells = false) : Own B base e size a n c xs := by
  refine ⟨h.1, ?_⟩
  rcases h.2 with h0 | ⟨g, cur, ha, hb, hh, rest⟩
  · exact .inl h0
  · exact .inr ⟨g, cur, ha, hb, Row.nc (show Row A g e cur from hh) hg hr, rest⟩
theorem grown_nc {w A B : World} {row : Option Nat} {b0 : Nat} (h : w.grownBy A none) (hg : A.grownBy B row) (hb : w.heap.size ≤ b0) (hr : ∀ r, row = some r → b0 ≤ r ∧ ∃ o : Obj, A.heap[r]? = some o ∧ o.isCells = false) : w.grownBy B none :=
  grownBy_none (grownBy_trans (grownBy_some h row) hg) (fun g e => Nat.le_trans hb (hr g e).1)
/-- no cells lie as they lay where cells alone were changed -/
theorem KeepsFrom.ch {A B : World} {S : Nat → Prop} {b0 : Nat} (h : Ch S A B) (hS : ∀ k, S k → ∃ cs t m, A.heap[k]? = some (.cells cs t m)) : KeepsFrom b0 A B :=
  ⟨h.size, fun k o _ hk ho => (h.block k (Array.getElem?_eq_some_iff.1 hk).1 (fun hs => by
    obtain ⟨cs, t, m, e⟩ := hS k hs
    rw [e] at hk
    injection hk with hk
    subst hk
    cases ho)).trans hk⟩
theorem Own.cellsAt {w : World} {base : Nat} {e : TypeId} {size : Nat} {a : Option Addr} {n c : Nat} {xs : List Value} (h : Own w base e size a n c xs) {g : Nat} (hi : In a c g) : ∃ cs t m, w.heap[g]? = some (.cells cs t m) := by
  obtain ⟨hc, ha⟩ := hi
  rcases h.2 with ⟨_, h0⟩ | ⟨g', cur, ha', _, hh, _⟩
  · omega
  · rw [ha] at ha'
    injection ha' with ha'; injection ha' with ha'
    subst ha'
    exact ⟨_, _, _, hh⟩
theorem Own.adr {w : World} {base : Nat} {e : TypeId} {a : Option Addr} {n c : Nat} {xs : List Value} (h : Own w base e 1 a n c xs) (hn : 0 < n) : ∃ g, a = some ⟨g, 0, none⟩ ∧ In a c g := by
  rcases h.2 with ⟨h0, _⟩ | ⟨g, cur, ha, _, _, hnc, _⟩
  · omega
  · exact ⟨g, ha, by omega, ha⟩

/-- byte by byte in one another -/
def xobL (a b : List UInt8) : List UInt8 := List.zipWith (· ^^^ ·) a b
theorem xobL_len {a b : List UInt8} (h : a.length = b.length) : (xobL a b).length = a.length := by simp [xobL, h]

/-- what stands between two rounds -/
structure XorI (w : World) (bb bo : Nat) (ab : Option Addr) (cb go n : Nat) (X : List UInt8) (pre : List Pce) (W : World) : Prop where
  bx : Row W bb 34 #[.slice ab n cb]
  ob : Row W bo 34 #[.slice (some ⟨go, 0, none⟩) (flt (pre.map Pce.pr)).length n]
  oo : BOwn W w.heap.size (some ⟨go, 0, none⟩) (flt (pre.map Pce.pr)).length n (X.take (flt (pre.map Pce.pr)).length)
  gr : w.grownBy W none
theorem XorI.own {w : World} {bb bo : Nat} {ab : Option Addr} {cb go n : Nat} {X : List UInt8} {b0 : Nat} (hb : w.heap.size ≤ b0) : OwnFrom b0 (XorI w bb bo ab cb go n X) :=
  fun _ _ _ _ hs hg hr => ⟨hs.bx.nc hg hr, hs.ob.nc hg hr, Own.nc hs.oo hg hr, grown_nc hs.gr hg hb hr⟩

set_option maxRecDepth 100000 in
set_option maxHeartbeats 4000000 in
theorem xor_eq (aa ab : Option Addr) (n ca cb : Nat) (l1 l2 : List UInt8) (w : World) (ha : BLies w aa l1) (hb : BLies w ab l2) (hl1 : l1.length = n) (hl2 : l2.length = n) (hn : n ≤ 4000000000) (X : List UInt8) (hX : X = xobL l1 l2) :
    Calls Try.prog 41 #[.slice aa n ca, .slice ab n cb] w fun e w' => ∃ ao no co, e = .returned (.tuple #[.slice ao no co, .int .i64 0]) ∧ BOwn w' w.heap.size ao no co X ∧ w.grownBy w' none := by
  obtain ⟨il, hi, hz, hsz, _⟩ := info_parts (show (Try.prog.info? 34).map (fun i => (i.zero, i.size, i.bytes)) = some (some (.slice none 0 0), 1, 24) by kernel_rfl)
  have hXn : X.length = n := by rw [hX, xobL_len (by rw [hl1, hl2]), hl1]
  have HX := Lib.hid hX
  have HXN := Lib.hid hXn
  clear hX hXn
  have HA := Lib.hid ha
  have HB := Lib.hid hb
  have HL1 := Lib.hid hl1
  have HL2 := Lib.hid hl2
  clear ha hb hl1 hl2
  refine calls_of_wp_marks Try.func41 rfl ?_
  simp only [Try.ntmps41, List.size_toArray, List.length_cons, List.length_nil, Nat.reduceAdd, Nat.reduceSub, Array.replicate_succ, Array.replicate_zero, List.push_toArray, List.append_toArray, List.nil_append, List.cons_append]
  go_upto_region 1 with (refine wpList_box1 rfl rfl (.slice ab n cb) rfl rfl ?_; intro W1 hs1 hg1 hr1; have HG1 := Lib.hid hg1; have HR1 := Lib.hid hr1; have HS1 := Lib.hid hs1; have c1 := Row.cell hr1 0; simp at c1; clear hs1 hg1 hr1)
  go_wp2_with (first
    | (refine wpList_mkRoom elB rfl _ _ rfl n rfl rfl (by omega) (by unfold maxLen; omega) ?_; intro W2 hs2 hg2 ho2; have HS2 := Lib.hid hs2; have HG2 := Lib.hid hg2; have HO2 := Lib.hid (show BOwn W2 W1.heap.size (some ⟨W1.heap.size, 0, none⟩) 0 n [] from ho2); clear hs2 hg2 ho2)
    | (refine wpList_fresh1 rfl rfl rfl rfl rfl hi hz hsz rfl (.slice (some ⟨W1.heap.size, 0, none⟩) 0 n) rfl rfl rfl ?_; intro W3 hs3 hg3 hr3; have HS3 := Lib.hid hs3; have HG3 := Lib.hid hg3; have HR3 := Lib.hid hr3; clear hs3 hg3 hr3)
    | (go_at_call 49; refine (chunks_n aa ca n 64 l1 _ (((HA.out.grown HG1.out).grown HG2.out).grown HG3.out) HL1.out (by omega)).mono ?_; rintro e W4 ⟨b1, b2, ac, cc, rfl, hc, hg4⟩; have HC := Lib.hid hc; have HG4 := Lib.hid hg4; clear hc hg4))
  have HR4 := Lib.hid (HR3.out.grown HG4.out)
  have HB4 := Lib.hid (((HR1.out.grown HG2.out).grown HG3.out).grown HG4.out)
  have HW4 := Lib.hid (grownBy_trans (grownBy_trans (grownBy_trans HG1.out HG2.out) HG3.out) HG4.out)
  have ho4 : BOwn W4 w.heap.size (some ⟨W1.heap.size, 0, none⟩) 0 n [] := ((HO2.out.grown HG3.out).grown HG4.out).mono HG1.out.size
  have HO4 := Lib.hid ho4
  have hz3 : w.heap.size < W2.heap.size ∧ W1.heap.size < W2.heap.size ∧ W2.heap.size < W3.heap.size := by
    have h1 := HS1.out
    have h2 := HS2.out
    have h3 := HS3.out
    omega
  have HZ3 := Lib.hid hz3
  have hne : W2.heap.size ≠ W1.heap.size := by omega
  obtain ⟨bb, hbb⟩ : ∃ bb, bb = w.heap.size := ⟨_, rfl⟩
  obtain ⟨go, hgo⟩ : ∃ go, go = W1.heap.size := ⟨_, rfl⟩
  obtain ⟨bo, hbo⟩ : ∃ bo, bo = W2.heap.size := ⟨_, rfl⟩
  rw [← hgo] at HO4
  have hrb : Row W4 bb 34 #[.slice ab n cb] := hbb ▸ HB4.out
  have hro : Row W4 bo 34 #[.slice (some ⟨go, 0, none⟩) 0 n] := by rw [hbo, hgo]; exact HR4.out
  have HRB := Lib.hid hrb
  have HRO := Lib.hid hro
  have hzz : bb < bo ∧ go < W3.heap.size ∧ bo < W3.heap.size ∧ W3.heap.size ≤ W4.heap.size ∧ bb < W3.heap.size ∧ w.heap.size ≤ go ∧ w.heap.size ≤ bo := by
    have h1 := HG4.out.size
    have h2 := HG1.out.size
    omega
  have HZZ := Lib.hid hzz
  rw [← hbb, ← hgo, ← hbo]
  clear hbb hgo hbo hne hz3 hrb hro hzz ho4 HR4 HB4 HR1 HR3 HG1 HG2 HG3 HG4 HS1 HS2 HS3 HZ3 HO2 c1
  refine (wpIn_wide (n := 3)).1 ?_
  refine wpIn_rangeOk (F := Fence.wide) (n := 3) rfl (by omega) (gf := 68) (lb := #[.pointer (some ⟨b1, 0, none⟩), .pointer (some ⟨b2, 0, none⟩)]) rfl trivial (enters_of Try.func68 (by kernel_rfl) rfl)
    (chunks1_in 2 W3.heap.size b1 b2 64 ac n cc l1 W4 HC.out hn) KeptS.trans (fun W l o o' hl _ _ _ => KeptS.put W l o' (fun hs => by have := (HC.out.lt hs).2; omega))
    (fun pre x W0 W l o o' h hl ho => h.put l o' hl ho) (Below.refl _ _) (fun _ => rfl)
    (XorI w bb bo ab cb go n X) (fun _ _ _ => False) (XorI.own HW4.out.size) (fun _ _ _ _ _ h _ _ => h)
    ⟨HRB.out, HRO.out, HO4.out, HW4.out⟩
    (fun x => { tmps := #[.slice aa n ca, .slice ab n cb, undef, .pointer (some ⟨bb, 0, none⟩), .slice none 0 0, .int .i64 0, .pointer (some ⟨bo, 0, none⟩), .int .i64 (x.at_ : Int), x.sl.val, undef, undef, .slice aa n ca, .int .i64 (n : Int), .slice ab n cb, .int .i64 (n : Int), .bool false, .slice aa n ca, .int .i64 (n : Int), .slice (some ⟨go, 0, none⟩) 0 n, .slice aa n ca, .func (.func 68) #[] #[.pointer (some ⟨b1, 0, none⟩), .pointer (some ⟨b2, 0, none⟩)], .int .i64 (x.at_ : Int), x.sl.val, undef, undef, undef, undef, undef, undef, undef, undef, undef, undef, undef, undef, undef, undef, undef, undef, undef, undef, undef, undef], defers := [] }) ?assign ?body ?done ?stop
  case assign =>
    intro lp x W K hK
    simp only [Pce.vals]
    gi_wp2
    exact hK
  case stop =>
    rintro D c pre W _ _ h _
    exact h.elim
  case done =>
    rintro D xs W hD hS hI hK
    have hfl : flt (xs.map Pce.pr) = l1 := by rw [hS]; exact flt_chs 63 l1.length 0 l1 (Nat.le_refl _)
    have hob := hI.ob
    have hoo := hI.oo
    have hgr := hI.gr
    rw [hfl, HL1.out] at hob hoo
    rw [List.take_of_length_le (by rw [HXN.out]; exact Nat.le_refl _)] at hoo
    have hcb := Row.cell hob 0
    simp at hcb
    have HOO := Lib.hid hoo
    have HGR := Lib.hid hgr
    have HWW := Lib.hid HW4.out.size
    have HD := Lib.hid hD
    have HK := Lib.hid hK
    clear hob hoo hgr hI hS hfl hD hK
    go_wp2_with fail
    have hr : ∀ r, some D = some r → w.heap.size ≤ r ∧ ∃ o : Obj, W.heap[r]? = some o ∧ o.isCells = false := fun r e => by
      cases e
      exact ⟨Nat.le_trans HWW.out HD.out, _, HK.out, rfl⟩
    refine ⟨by simp, .inl ⟨_, _, rfl, run_takeDeferred HK.out, ?_⟩⟩
    exact ⟨_, results_tmp2 rfl _ _ _, _, _, _, rfl, Own.nc HOO.out (grownBy_putObj' W D _) hr, grown_nc HGR.out (grownBy_putObj' W D _) (Nat.le_refl _) hr⟩
  case body =>
    rintro lp pre ⟨at_, ⟨sa, sm, sc⟩, pb⟩ W0 W hI0 hI hkc hok
    obtain ⟨r, hr⟩ := hok.at_
    have hat : at_ = (flt (pre.map Pce.pr)).length := by have := chs_at 63 _ 0 at_ pb r l1 hr; omega
    have hfl : flt (pre.map Pce.pr) ++ (pb ++ flt r) = l1 := by
      have h := flt_chs 63 l1.length 0 l1 (Nat.le_refl _)
      have hr' : pre.map Pce.pr ++ (at_, pb) :: r = chs 63 0 l1 := hr
      rw [← hr', flt_app, flt_cons] at h
      exact h
    have hown : BOwn W W0.heap.size sa sm sc pb := hok.own
    have hpl : pb.length = sm := BOwn.len hown
    have hnx : (flt ((pre ++ [(⟨at_, ⟨sa, sm, sc⟩, pb⟩ : Pce)]).map Pce.pr)).length = (flt (pre.map Pce.pr)).length + sm := by
      rw [List.map_append, flt_app, List.length_append, List.map_cons, List.map_nil, flt_cons, flt_nil, List.append_nil]
      rw [show (Pce.pr ⟨at_, ⟨sa, sm, sc⟩, pb⟩).2 = pb from rfl, hpl]
    obtain ⟨k, hk⟩ : ∃ k, k = (flt (pre.map Pce.pr)).length := ⟨_, rfl⟩
    have hob := hI.ob
    have hoo := hI.oo
    have hb0 : bo < W0.heap.size := hI0.ob.lt
    have hgo0 : 0 < n → go < W0.heap.size := fun h => (Own.inn hI0.oo ⟨h, rfl⟩).2
    rw [← hk] at hat hnx hob hoo
    subst hat
    have hkm : at_ + sm ≤ n := by
      have h := congrArg List.length hfl
      rw [List.length_append, List.length_append, HL1.out, hpl, ← hk] at h
      omega
    have hget : ∀ (i : Nat) (hi : i < pb.length) (hi2 : at_ + i < l1.length), l1[at_ + i] = pb[i] := fun i hi hi2 => by
      have e : l1[at_ + i]? = pb[i]? := by
        rw [← hfl, List.getElem?_append_right (by omega), ← hk, Nat.add_sub_cancel_left, List.getElem?_append_left hi]
      rw [List.getElem?_eq_getElem hi2, List.getElem?_eq_getElem hi] at e
      exact Option.some.inj e
    obtain ⟨k, hkk⟩ : ∃ k, k = at_ := ⟨_, rfl⟩
    rw [← hkk] at hnx hob hoo hkm hget hk ⊢
    have HBX := Lib.hid hI.bx
    have HOB := Lib.hid hob
    have HOO := Lib.hid hoo
    have HGR := Lib.hid hI.gr
    have HNX := Lib.hid hnx
    have HOWN := Lib.hid hown
    have HPL := Lib.hid hpl
    have HGET := Lib.hid hget
    have HB0 := Lib.hid hb0
    have HG0 := Lib.hid hgo0
    have HKC := Lib.hid hkc.size
    clear hI hI0 hok hkc hr hfl hown hpl hnx hob hoo hget hk hb0 hgo0 hkk
    have hbo : ¬ In (some ⟨go, 0, none⟩) n bo := row_in HOB.out HOO.out (by decide)
    have hbb : bb ≠ bo := by have := HZZ.out; omega
    have hbg : ¬ In (some ⟨go, 0, none⟩) n bb := row_in HBX.out HOO.out (by decide)
    have HBO := Lib.hid hbo
    have HBB := Lib.hid hbb
    have HBG := Lib.hid hbg
    clear hbo hbb hbg
    simp only [Sl.val]
    gi_wp2
    gi_loopw [25] (fun vi wr => ∃ i : Nat, i ≤ sm ∧ vi = .int .i64 i ∧ Row wr bo 34 #[.slice (some ⟨go, 0, none⟩) (k + i) n] ∧ BOwn wr w.heap.size (some ⟨go, 0, none⟩) (k + i) n (X.take (k + i)) ∧ Ch (fun g => g = bo ∨ In (some ⟨go, 0, none⟩) n g) W wr) (fun vi _ => sm - (intOf vi).toNat)
    case atStart => exact ⟨0, Nat.zero_le _, rfl, HOB.out, HOO.out, Ch.refl _ _⟩
    case round =>
      obtain ⟨i, hi, rfl, hobr, hoor, hch⟩ := hrel
      have HOBR := Lib.hid hobr
      have HOOR := Lib.hid hoor
      have HCH := Lib.hid hch
      clear hobr hoor hch
      by_cases hlt : i < sm
      · obtain ⟨gs, rfl, hgs1, hgs2⟩ := Own.block HOWN.out (by have := HOWN.out.cap; omega)
        have hipb : i < pb.length := by rw [HPL.out]; exact hlt
        have hil2 : k + i < l2.length := by rw [HL2.out]; omega
        have hil1 : k + i < l1.length := by rw [HL1.out]; omega
        obtain ⟨gb, ob, rfl⟩ := BLies.addr HB.out (by omega)
        obtain ⟨xb, hxb⟩ : ∃ xb, xb = pb[i] := ⟨_, rfl⟩
        obtain ⟨yb, hyb⟩ : ∃ yb, yb = l2[k + i] := ⟨_, rfl⟩
        have hnotS : ∀ g, W0.heap.size ≤ g → ¬ (g = bo ∨ In (some ⟨go, 0, none⟩) n g) := fun g hg h => by
          rcases h with h | h
          · have := HB0.out; omega
          · have h1 := HG0.out h.1
            have h2 := h.2
            injection h2 with h2; injection h2 with h2
            omega
        have hnotw : ∀ g, g < w.heap.size → ¬ (g = bo ∨ In (some ⟨go, 0, none⟩) n g) := fun g hg h => by
          have hz := HZZ.out
          rcases h with h | h
          · omega
          · have h2 := h.2
            injection h2 with h2; injection h2 with h2
            omega
        have hpc : wr.cell? ⟨gs, i, none⟩ = some (.int .u8 (xb.toNat : Int)) := by
          obtain ⟨b, off, e, hc⟩ := ((BOwn.lies HOWN.out).ch HCH.out (fun b off e hS => by
            injection e with e; injection e with e1 e2
            subst e1
            exact hnotS _ hgs1 hS)) i hipb
          injection e with e; injection e with e1 e2
          subst e1; subst e2
          rw [Nat.zero_add] at hc
          rw [hc, hxb]
        have hlc : wr.cell? ⟨gb, ob + (k + i), none⟩ = some (.int .u8 (yb.toNat : Int)) := by
          have hgb : gb < w.heap.size := by
            obtain ⟨b, off, e, hc⟩ := HB.out (k + i) hil2
            injection e with e; injection e with e1 e2
            subst e1
            exact World.block_lt_of_cell? w _ hc
          obtain ⟨b, off, e, hc⟩ := ((HB.out.grown HGR.out).ch HCH.out (fun b off e hS => by
            injection e with e; injection e with e1 e2
            subst e1
            exact hnotw _ hgb hS)) (k + i) hil2
          injection e with e; injection e with e1 e2
          subst e1; subst e2
          rw [hc, hyb]
        have hgbo : ¬ In (some ⟨go, 0, none⟩) n gb := fun h => by
          obtain ⟨b, off, e, hc⟩ := HB.out (k + i) hil2
          injection e with e; injection e with e1 e2
          subst e1
          exact hnotw _ (World.block_lt_of_cell? w _ hc) (.inr h)
        have hbxr : Row wr bb 34 #[.slice (some ⟨gb, ob, none⟩) n cb] := HBX.out.ch HCH.out (fun h => by
          rcases h with h | h
          · exact HBB.out h
          · exact HBG.out h)
        have hc0 : ∀ u, Ch (In (some ⟨go, 0, none⟩) n) wr u → u.cell? ⟨bo, 0, none⟩ = some (.slice (some ⟨go, 0, none⟩) (k + i) n) := fun u hu => by
          have h := Row.cell (HOBR.out.ch hu HBO.out) 0
          simpa using h
        have hc1 : ∀ u, Ch (In (some ⟨go, 0, none⟩) n) wr u → u.cell? ⟨bb, 0, none⟩ = some (.slice (some ⟨gb, ob, none⟩) n cb) := fun u hu => by
          have h := Row.cell (hbxr.ch hu HBG.out) 0
          simpa using h
        have hc2 : ∀ u, Ch (In (some ⟨go, 0, none⟩) n) wr u → u.cell? ⟨gb, ob + (k + i), none⟩ = some (.int .u8 (yb.toNat : Int)) := fun u hu =>
          (World.cell?_of_block (hu.block gb (World.block_lt_of_cell? wr _ hlc) hgbo)).trans hlc
        have hxo : bits .xor .u8 (xb.toNat : Int) (yb.toNat : Int) = ((xb ^^^ yb).toNat : Int) := xor_u8' xb yb
        have htk : (X.take (k + i)).map bval ++ [.int .u8 ((xb ^^^ yb).toNat : Int)] = (X.take (k + (i + 1))).map bval := by
          have hXi : k + i < X.length := by rw [HXN.out]; omega
          have e : X[k + i] = xb ^^^ yb := by
            have e2 : X[k + i]? = some (l1[k + i] ^^^ l2[k + i]) := by
              rw [HX.out, xobL, List.getElem?_zipWith, List.getElem?_eq_getElem hil1, List.getElem?_eq_getElem hil2]
            rw [List.getElem?_eq_getElem hXi] at e2
            rw [Option.some.inj e2, HGET.out i hipb hil1, hxb, hyb]
          rw [show k + (i + 1) = k + i + 1 from rfl, List.take_succ_eq_append_getElem hXi, List.map_append, e]
          rfl
        have HC0 := Lib.hid hc0
        have HC1 := Lib.hid hc1
        have HC2 := Lib.hid hc2
        have HXO := Lib.hid hxo
        have HTK := Lib.hid htk
        have HWA : Hid (IntKind.i64.wrap ((k : Int) + (i : Int)) = (k : Int) + (i : Int)) := by
          unfold Hid
          rw [IntWalk.i64_in _ (by omega)]
        have HLB2 : Hid ((0 : Int) ≤ (k : Int) + (i : Int) ∧ (k : Int) + (i : Int) < (n : Int)) := by unfold Hid; omega
        have HLT : Hid (((k : Int) + (i : Int)).toNat = k + i) := by unfold Hid; omega
        have HLB : Hid (k + i < n) := by unfold Hid; omega
        have hd : decide ((i : Int) < (sm : Int)) = true := by simp; omega
        have hd3 : decide (i < sm) = true := by simp; omega
        clear hnotS hnotw hlc hgbo hbxr hc0 hc1 hc2 hxo htk hyb hxb hgs1 hgs2 hil2 hil1 hipb
        gi_wp2
        refine wpIn_regionX (AppS wr w.heap.size 5 (some ⟨go, 0, none⟩) (k + i) n ((X.take (k + i)).map bval)) 11 (by kernel_rfl) (by kernel_rfl) ⟨Ch.ofNone (grownBy_drewN wr 1 none) _, HOOR.out⟩ ?_
        refine wpX_take 0 (v := .slice (some ⟨go, 0, none⟩) (k + i) n) (oi := { dst := some 30, op := Op.load 34 (Operand.tmp 6), type := 34, pos := "octet.go:92", after := #[], guard := none }) (oL := { dst := none, op := Op.store 34 (Operand.tmp 6) (Operand.tmp 40), type := 0, pos := "octet.go:92", after := #[{ on := 10, ground := Ground.data }, { on := 10, ground := Ground.chain }, { on := 0, ground := Ground.phase }, { on := 1, ground := Ground.phase }, { on := 2, ground := Ground.phase }, { on := 3, ground := Ground.phase }, { on := 4, ground := Ground.phase }, { on := 5, ground := Ground.phase }, { on := 6, ground := Ground.phase }, { on := 7, ground := Ground.phase }, { on := 8, ground := Ground.phase }, { on := 9, ground := Ground.phase }, { on := 10, ground := Ground.phase }], guard := none }) (clo_app _ _ _ _ _ _ _) rfl rfl rfl (by kernel_rfl) (by kernel_rfl) (by kernel_rfl) (by kernel_rfl) (by kernel_rfl) (fun _ _ _ h => by cases h.1) (YG.val (by rfl) (fun u hu => by have hc := HC0.out u hu.1; go_simp)) ?_
        simp only [Act.put, List.setIfInBounds_toArray, List.set_cons_zero, List.set_cons_succ]
        refine wpX_take 1 (v := .int .u8 (xb.toNat : Int)) (oi := { dst := some 31, op := Op.move (Operand.tmp 10), type := 5, pos := "octet.go:92", after := #[], guard := none }) (oL := { dst := none, op := Op.store 34 (Operand.tmp 6) (Operand.tmp 40), type := 0, pos := "octet.go:92", after := #[{ on := 10, ground := Ground.data }, { on := 10, ground := Ground.chain }, { on := 0, ground := Ground.phase }, { on := 1, ground := Ground.phase }, { on := 2, ground := Ground.phase }, { on := 3, ground := Ground.phase }, { on := 4, ground := Ground.phase }, { on := 5, ground := Ground.phase }, { on := 6, ground := Ground.phase }, { on := 7, ground := Ground.phase }, { on := 8, ground := Ground.phase }, { on := 9, ground := Ground.phase }, { on := 10, ground := Ground.phase }], guard := none }) (clo_app _ _ _ _ _ _ _) rfl rfl rfl (by kernel_rfl) (by kernel_rfl) (by kernel_rfl) (by kernel_rfl) (by kernel_rfl) (fun _ _ _ h => by cases h.1) (YG.val (by rfl) (fun _ _ => rfl)) ?_
        simp only [Act.put, List.setIfInBounds_toArray, List.set_cons_zero, List.set_cons_succ]
        refine wpX_take 2 (v := .slice (some ⟨gb, ob, none⟩) n cb) (oi := { dst := some 32, op := Op.load 34 (Operand.tmp 3), type := 34, pos := "octet.go:92", after := #[], guard := none }) (oL := { dst := none, op := Op.store 34 (Operand.tmp 6) (Operand.tmp 40), type := 0, pos := "octet.go:92", after := #[{ on := 10, ground := Ground.data }, { on := 10, ground := Ground.chain }, { on := 0, ground := Ground.phase }, { on := 1, ground := Ground.phase }, { on := 2, ground := Ground.phase }, { on := 3, ground := Ground.phase }, { on := 4, ground := Ground.phase }, { on := 5, ground := Ground.phase }, { on := 6, ground := Ground.phase }, { on := 7, ground := Ground.phase }, { on := 8, ground := Ground.phase }, { on := 9, ground := Ground.phase }, { on := 10, ground := Ground.phase }], guard := none }) (clo_app _ _ _ _ _ _ _) rfl rfl rfl (by kernel_rfl) (by kernel_rfl) (by kernel_rfl) (by kernel_rfl) (by kernel_rfl) (fun _ _ _ h => by cases h.1) (YG.val (by rfl) (fun u hu => by have hc := HC1.out u hu.1; go_simp)) ?_
        simp only [Act.put, List.setIfInBounds_toArray, List.set_cons_zero, List.set_cons_succ]
        refine wpX_take 3 (v := .int .i64 (k : Int)) (oi := { dst := some 33, op := Op.move (Operand.tmp 7), type := 3, pos := "octet.go:92", after := #[], guard := none }) (oL := { dst := none, op := Op.store 34 (Operand.tmp 6) (Operand.tmp 40), type := 0, pos := "octet.go:92", after := #[{ on := 10, ground := Ground.data }, { on := 10, ground := Ground.chain }, { on := 0, ground := Ground.phase }, { on := 1, ground := Ground.phase }, { on := 2, ground := Ground.phase }, { on := 3, ground := Ground.phase }, { on := 4, ground := Ground.phase }, { on := 5, ground := Ground.phase }, { on := 6, ground := Ground.phase }, { on := 7, ground := Ground.phase }, { on := 8, ground := Ground.phase }, { on := 9, ground := Ground.phase }, { on := 10, ground := Ground.phase }], guard := none }) (clo_app _ _ _ _ _ _ _) rfl rfl rfl (by kernel_rfl) (by kernel_rfl) (by kernel_rfl) (by kernel_rfl) (by kernel_rfl) (fun _ _ _ h => by cases h.1) (YG.val (by rfl) (fun _ _ => rfl)) ?_
        simp only [Act.put, List.setIfInBounds_toArray, List.set_cons_zero, List.set_cons_succ]
        refine wpX_take 4 (v := .int .i64 (i : Int)) (oi := { dst := some 34, op := Op.move (Operand.tmp 9), type := 3, pos := "octet.go:92", after := #[], guard := none }) (oL := { dst := none, op := Op.store 34 (Operand.tmp 6) (Operand.tmp 40), type := 0, pos := "octet.go:92", after := #[{ on := 10, ground := Ground.data }, { on := 10, ground := Ground.chain }, { on := 0, ground := Ground.phase }, { on := 1, ground := Ground.phase }, { on := 2, ground := Ground.phase }, { on := 3, ground := Ground.phase }, { on := 4, ground := Ground.phase }, { on := 5, ground := Ground.phase }, { on := 6, ground := Ground.phase }, { on := 7, ground := Ground.phase }, { on := 8, ground := Ground.phase }, { on := 9, ground := Ground.phase }, { on := 10, ground := Ground.phase }], guard := none }) (clo_app _ _ _ _ _ _ _) rfl rfl rfl (by kernel_rfl) (by kernel_rfl) (by kernel_rfl) (by kernel_rfl) (by kernel_rfl) (fun _ _ _ h => by cases h.1) (YG.val (by rfl) (fun _ _ => rfl)) ?_
        simp only [Act.put, List.setIfInBounds_toArray, List.set_cons_zero, List.set_cons_succ]
        refine wpX_take 5 (v := .int .i64 ((k + i : Nat) : Int)) (oi := { dst := some 35, op := Op.binOp BinOp.add 3 (Operand.tmp 33) (Operand.tmp 34) 3, type := 3, pos := "octet.go:92", after := #[{ on := 3, ground := Ground.data }, { on := 4, ground := Ground.data }], guard := none }) (oL := { dst := none, op := Op.store 34 (Operand.tmp 6) (Operand.tmp 40), type := 0, pos := "octet.go:92", after := #[{ on := 10, ground := Ground.data }, { on := 10, ground := Ground.chain }, { on := 0, ground := Ground.phase }, { on := 1, ground := Ground.phase }, { on := 2, ground := Ground.phase }, { on := 3, ground := Ground.phase }, { on := 4, ground := Ground.phase }, { on := 5, ground := Ground.phase }, { on := 6, ground := Ground.phase }, { on := 7, ground := Ground.phase }, { on := 8, ground := Ground.phase }, { on := 9, ground := Ground.phase }, { on := 10, ground := Ground.phase }], guard := none }) (clo_app _ _ _ _ _ _ _) rfl rfl rfl (by kernel_rfl) (by kernel_rfl) (by kernel_rfl) (by kernel_rfl) (by kernel_rfl) (fun _ _ _ h => by cases h.1) (YG.val (by rfl) (fun _ _ => by have hwa := HWA.out; go_simp)) ?_
        simp only [Act.put, List.setIfInBounds_toArray, List.set_cons_zero, List.set_cons_succ]
        refine wpX_take 6 (v := .pointer (some ⟨gb, ob + (k + i), none⟩)) (oi := { dst := some 36, op := Op.indexAddr 34 (Operand.tmp 32) (Operand.tmp 35), type := 0, pos := "octet.go:92", after := #[{ on := 2, ground := Ground.data }, { on := 5, ground := Ground.data }], guard := none }) (oL := { dst := none, op := Op.store 34 (Operand.tmp 6) (Operand.tmp 40), type := 0, pos := "octet.go:92", after := #[{ on := 10, ground := Ground.data }, { on := 10, ground := Ground.chain }, { on := 0, ground := Ground.phase }, { on := 1, ground := Ground.phase }, { on := 2, ground := Ground.phase }, { on := 3, ground := Ground.phase }, { on := 4, ground := Ground.phase }, { on := 5, ground := Ground.phase }, { on := 6, ground := Ground.phase }, { on := 7, ground := Ground.phase }, { on := 8, ground := Ground.phase }, { on := 9, ground := Ground.phase }, { on := 10, ground := Ground.phase }], guard := none }) (clo_app _ _ _ _ _ _ _) rfl rfl rfl (by kernel_rfl) (by kernel_rfl) (by kernel_rfl) (by kernel_rfl) (by kernel_rfl) (fun _ _ _ h => by cases h.1) (YG.val (by rfl) (fun _ _ => by go_simp; rw [if_pos HLB2.out, HLT.out])) ?_
        simp only [Act.put, List.setIfInBounds_toArray, List.set_cons_zero, List.set_cons_succ]
        refine wpX_take 7 (v := .int .u8 ((yb).toNat : Int)) (oi := { dst := some 37, op := Op.load 5 (Operand.tmp 36), type := 5, pos := "octet.go:92", after := #[{ on := 6, ground := Ground.data }], guard := none }) (oL := { dst := none, op := Op.store 34 (Operand.tmp 6) (Operand.tmp 40), type := 0, pos := "octet.go:92", after := #[{ on := 10, ground := Ground.data }, { on := 10, ground := Ground.chain }, { on := 0, ground := Ground.phase }, { on := 1, ground := Ground.phase }, { on := 2, ground := Ground.phase }, { on := 3, ground := Ground.phase }, { on := 4, ground := Ground.phase }, { on := 5, ground := Ground.phase }, { on := 6, ground := Ground.phase }, { on := 7, ground := Ground.phase }, { on := 8, ground := Ground.phase }, { on := 9, ground := Ground.phase }, { on := 10, ground := Ground.phase }], guard := none }) (clo_app _ _ _ _ _ _ _) rfl rfl rfl (by kernel_rfl) (by kernel_rfl) (by kernel_rfl) (by kernel_rfl) (by kernel_rfl) (fun _ _ _ h => by cases h.1) (YG.val (by rfl) (fun u hu => by have hc := HC2.out u hu.1; go_simp)) ?_
        simp only [Act.put, List.setIfInBounds_toArray, List.set_cons_zero, List.set_cons_succ]
        refine wpX_take 8 (v := .int .u8 ((xb ^^^ yb).toNat : Int)) (oi := { dst := some 38, op := Op.binOp BinOp.xor 5 (Operand.tmp 31) (Operand.tmp 37) 5, type := 5, pos := "octet.go:92", after := #[{ on := 1, ground := Ground.data }, { on := 7, ground := Ground.data }], guard := none }) (oL := { dst := none, op := Op.store 34 (Operand.tmp 6) (Operand.tmp 40), type := 0, pos := "octet.go:92", after := #[{ on := 10, ground := Ground.data }, { on := 10, ground := Ground.chain }, { on := 0, ground := Ground.phase }, { on := 1, ground := Ground.phase }, { on := 2, ground := Ground.phase }, { on := 3, ground := Ground.phase }, { on := 4, ground := Ground.phase }, { on := 5, ground := Ground.phase }, { on := 6, ground := Ground.phase }, { on := 7, ground := Ground.phase }, { on := 8, ground := Ground.phase }, { on := 9, ground := Ground.phase }, { on := 10, ground := Ground.phase }], guard := none }) (clo_app _ _ _ _ _ _ _) rfl rfl rfl (by kernel_rfl) (by kernel_rfl) (by kernel_rfl) (by kernel_rfl) (by kernel_rfl) (fun _ _ _ h => by cases h.1) (YG.val (by rfl) (fun _ _ => by have hxo := HXO.out; go_simp)) ?_
        simp only [Act.put, List.setIfInBounds_toArray, List.set_cons_zero, List.set_cons_succ]
        refine wpX_step 9 (o := { dst := some 39, op := Op.buildSlice 34 1 #[(0, Operand.tmp 38)], type := 34, pos := "octet.go:92", after := #[{ on := 8, ground := Ground.data }], guard := none }) rfl rfl (by kernel_rfl) (by rfl) (fun u2 hS2 K hK => ?_)
        have HK := Lib.hid hK
        have HS2 := Lib.hid hS2
        clear hK hS2
        have ha2 := World.grownBy_alloc u2 (.cells #[.int .u8 ((xb ^^^ yb).toNat : Int)] 5) none
        refine wp_val_op (v := .slice (some ⟨u2.heap.size, 0, none⟩) 1 1) (w1 := u2.alloc (.cells #[.int .u8 ((xb ^^^ yb).toNat : Int)] 5)) (by go_simp) ?_
        have hrw2 : Row (u2.alloc (.cells #[.int .u8 ((xb ^^^ yb).toNat : Int)] 5)) u2.heap.size 5 #[.int .u8 ((xb ^^^ yb).toNat : Int)] := heap_alloc_new u2 _
        refine HK.out (fun u => AppS wr w.heap.size 5 (some ⟨go, 0, none⟩) (k + i) n ((X.take (k + i)).map bval) u ∧ Row u u2.heap.size 5 #[.int .u8 ((xb ^^^ yb).toNat : Int)]) _ _ ⟨clo_app _ _ _ _ _ _ _ _ _ HS2.out ha2, hrw2⟩ (fun u h => h.1) (clo_and (clo_app _ _ _ _ _ _ _) (clo_row _ _ _)) ?_
        simp only [Act.put, List.setIfInBounds_toArray, List.set_cons_zero, List.set_cons_succ]
        clear ha2 hrw2
        have hu26 : wr.heap.size ≤ u2.heap.size := HS2.out.1.size
        refine wpX_step 10 (o := { dst := some 40, op := Op.call { callee := Callee.builtin Builtin.append, args := #[Operand.tmp 30, Operand.tmp 39], argTypes := #[34, 34] }, type := 34, pos := "octet.go:92", after := #[{ on := 0, ground := Ground.data }, { on := 9, ground := Ground.data }], guard := none }) rfl rfl (by kernel_rfl) (by rfl) (fun u3 hS3 K3 hK3 => ?_)
        have HK3 := Lib.hid hK3
        have HS3 := Lib.hid hS3
        clear hK3 hS3
        have hnews : ∀ j u, ([.int .u8 ((xb ^^^ yb).toNat : Int)] : List Value)[j]? = some u → u3.cell? ((⟨u2.heap.size, 0, none⟩ : Addr).add j) = some u := by
          intro j u hu
          have h2 : ((⟨u2.heap.size, 0, none⟩ : Addr).add j) = ⟨u2.heap.size, j, none⟩ := by unfold Addr.add; split <;> simp_all
          rw [h2, Row.cell HS3.out.2]
          simpa using hu
        have hFn : ¬ In (some ⟨go, 0, none⟩) n u2.heap.size := fun h => by
          have := (Own.inn HOOR.out h).2
          omega
        have hroom := HLB.out
        obtain ⟨w8, hrun, hown8, hgr8⟩ := run_app_room (P := Try.prog) (ty := 34) u3 elB HS3.out.1.2 ⟨u2.heap.size, 0, none⟩ 1 1 [.int .u8 ((xb ^^^ yb).toNat : Int)] rfl hnews (by simp [Value.oneCell']) (by omega) (by omega)
        refine wp_val_op (v := .slice (some ⟨go, 0, none⟩) (k + i + 1) n) (w1 := w8) (run_app_op u3 w8 _ (.tmp 30) (.tmp 39) rfl _ hrun) ?_
        refine HK3.out (fun u => (AppS wr w.heap.size 5 (some ⟨go, 0, none⟩) (k + i) n ((X.take (k + i)).map bval) u ∧ Row u u2.heap.size 5 #[.int .u8 ((xb ^^^ yb).toNat : Int)]) ∧ w8.grownBy u none) _ _ ⟨⟨⟨HS3.out.1.1.trans hgr8.ch (fun _ _ h => h), own_behind HS3.out.1.2 hown8 hgr8⟩, Row.ch HS3.out.2 hgr8.ch hFn⟩, World.grownBy.refl _ _⟩ (fun u h => h.1) (clo_and (clo_and (clo_app _ _ _ _ _ _ _) (clo_row _ _ _)) (clo_grown _)) ?_
        simp only [Act.put, List.setIfInBounds_toArray, List.set_cons_zero, List.set_cons_succ]
        refine wpX_last (oL := { dst := none, op := Op.store 34 (Operand.tmp 6) (Operand.tmp 40), type := 0, pos := "octet.go:92", after := #[{ on := 10, ground := Ground.data }, { on := 10, ground := Ground.chain }, { on := 0, ground := Ground.phase }, { on := 1, ground := Ground.phase }, { on := 2, ground := Ground.phase }, { on := 3, ground := Ground.phase }, { on := 4, ground := Ground.phase }, { on := 5, ground := Ground.phase }, { on := 6, ground := Ground.phase }, { on := 7, ground := Ground.phase }, { on := 8, ground := Ground.phase }, { on := 9, ground := Ground.phase }, { on := 10, ground := Ground.phase }], guard := none }) rfl (by kernel_rfl) (by kernel_rfl) (by rfl) (fun u4 hS4 K4 hK4 => ?_)
        have hrow4 : Row u4 bo 34 #[.slice (some ⟨go, 0, none⟩) (k + i) n] := HOBR.out.ch hS4.1.1.1 HBO.out
        have c14 := Row.cell hrow4 0
        have f14 := Row.frozen hrow4 0
        simp at c14
        refine wp_skip_op (w1 := u4.setCell ⟨bo, 0, none⟩ (.slice (some ⟨go, 0, none⟩) (k + i + 1) n)) (by go_simp) (hK4 _ _ ⟨rfl, ?_⟩)
        simp only [Act.put]
        obtain ⟨w9, hw9⟩ : ∃ w9, w9 = u4.setCell ⟨bo, 0, none⟩ (.slice (some ⟨go, 0, none⟩) (k + i + 1) n) := ⟨_, rfl⟩
        rw [← hw9]
        have hg9 : u4.grownBy w9 (some bo) := hw9 ▸ grownBy_setCell _ _ _ _
        have hrow9 : Row w9 bo 34 #[.slice (some ⟨go, 0, none⟩) (k + (i + 1)) n] := hw9 ▸ Row.setc hrow4 0 _
        have hch9 : Ch (fun g => g = bo ∨ In (some ⟨go, 0, none⟩) n g) W w9 := (HCH.out.trans hS4.1.1.1 (fun _ _ h => .inr h)).trans (Ch.ofSome (S := fun g => g = bo) hg9 rfl) (fun _ _ h => .inl h)
        have hown9 : BOwn w9 w.heap.size (some ⟨go, 0, none⟩) (k + (i + 1)) n (X.take (k + (i + 1))) := by
          have h4 : Own u4 w.heap.size 5 1 (some ⟨go, 0, none⟩) (k + i + 1) n ((X.take (k + i)).map bval ++ [.int .u8 ((xb ^^^ yb).toNat : Int)]) := Own.ch hown8 (Ch.ofNone hS4.2 (fun _ => False)) (fun _ _ _ h => h)
          rw [HTK.out] at h4
          exact Own.ch h4 (Ch.ofSome (S := fun g => g = bo) hg9 rfl) (fun h0 g e h => HBO.out (h ▸ ⟨h0, e⟩))
        have HROW9 := Lib.hid hrow9
        have HCH9 := Lib.hid hch9
        have HOWN9 := Lib.hid hown9
        clear hw9 hg9 hrow9 hch9 hown9 hrow4 c14 f14 hS4 hgr8 hown8 hrun hFn hnews hu26 HK3 HK HS2 HS3 HC0 HC1 HC2 HXO HTK HOBR HOOR HCH hK4 hroom
        gi_wp2
        refine ⟨⟨i + 1, by omega, by go_num, HROW9.out, HOWN9.out, HCH9.out⟩, ?_⟩
        simp only [intOf]
        omega
      · obtain rfl : i = sm := by omega
        have hd : decide ((i : Int) < (i : Int)) = false := by simp
        gi_wp2
        refine ⟨KeepsFrom.ch HCH.out (fun g hS => ?_), KeptS.ch HCH.out (fun g hs hT => ?_), HBX.out.ch HCH.out (fun h => ?_), ?_, ?_, Ch.fresh HGR.out HCH.out (fun g hg hT => ?_)⟩
        · rcases hS with rfl | h
          · exact ⟨_, _, _, HOB.out⟩
          · exact Own.cellsAt HOO.out h
        · have hz := HZZ.out
          have hl := (HC.out.lt hs).1
          rcases hT with h | h
          · omega
          · have h2 := h.2
            injection h2 with h2; injection h2 with h2
            omega
        · rcases h with h | h
          · exact HBB.out h
          · exact HBG.out h
        · rw [HNX.out]; exact HOBR.out
        · rw [HNX.out]; exact HOOR.out
        · have hz := HZZ.out
          rcases hT with h | h
          · omega
          · have h2 := h.2
            injection h2 with h2; injection h2 with h2
            omega

set_option maxRecDepth 100000 in
set_option maxHeartbeats 4000000 in
theorem xor_ne (aa ab : Option Addr) (n m ca cb : Nat) (l1 l2 : List UInt8) (w : World) (hl1 : l1.length = n) (hl2 : l2.length = m) (he : n ≠ m) :
    Calls Try.prog 41 #[.slice aa n ca, .slice ab m cb] w fun e w' => e = .returned (.tuple #[.slice none 0 0, .int .i64 12]) ∧ w.grownBy w' none := by
  obtain ⟨il, hi, hz, hsz, _⟩ := info_parts (show (Try.prog.info? 34).map (fun i => (i.zero, i.size, i.bytes)) = some (some (.slice none 0 0), 1, 24) by kernel_rfl)
  have HL1 := Lib.hid hl1
  have HL2 := Lib.hid hl2
  clear hl1 hl2
  refine calls_of_wp_marks Try.func41 rfl ?_
  simp only [Try.ntmps41, List.size_toArray, List.length_cons, List.length_nil, Nat.reduceAdd, Nat.reduceSub, Array.replicate_succ, Array.replicate_zero, List.push_toArray, List.append_toArray, List.nil_append, List.cons_append]
  go_upto_region 1 with (refine wpList_box1 rfl rfl (.slice ab m cb) rfl rfl ?_; intro W1 hs1 hg1 hr1; have HG1 := Lib.hid hg1; have HR1 := Lib.hid hr1; have HS1 := Lib.hid hs1; have c1 := Row.cell hr1 0; simp at c1; clear hs1 hg1 hr1)
  have hd : decide ((n : Int) = (m : Int)) = false := by simp; omega
  have hd2 : ((n : Int) == (m : Int)) = false := by simp; omega
  go_wp2_with fail
  exact ⟨_, results_tmp2 rfl _ _ _, rfl, HG1.out⟩

end Go.Proofs.Ytblgdfamomlklaa
/- ctr.Stream. -/
namespace Go.Proofs.Ytblgdfamomlklaa
open Go.RowKit Go.Shelf
attribute [local go_sem] Oper.semAt_some

/-- the error of a stretch -/
def stE (x y : Int) : Int := if y < 0 then 2 else if x < 0 ∨ 4611686018427387904 < x ∨ 4611686018427387904 - x < y then 40 else 0
/-- its bytes -/
def stL (key : List UInt8) (x y : Int) : List UInt8 := if stE x y = 0 then kst (ksB key) x.toNat y.toNat else []

/-- the room: d bytes of X, and whatever else -/
def Fil (W : World) (go n d : Nat) (X : List UInt8) : Prop := ∃ L : List UInt8, L.length = n ∧ L.take d = X.take d ∧ BRow W go 5 L
theorem Fil.grown {A B : World} {go n d : Nat} {X : List UInt8} (h : Fil A go n d X) (hg : A.grownBy B none) : Fil B go n d X := by
  obtain ⟨L, h1, h2, h3⟩ := h
  exact ⟨L, h1, h2, h3.grown hg⟩
theorem Fil.ch {A B : World} {go n d : Nat} {X : List UInt8} {S : Nat → Prop} (h : Fil A go n d X) (hc : Ch S A B) (hS : ¬ S go) : Fil B go n d X := by
  obtain ⟨L, h1, h2, h3⟩ := h
  exact ⟨L, h1, h2, Row.ch h3 hc hS⟩
theorem Fil.nc {A B : World} {go n d : Nat} {X : List UInt8} {row : Option Nat} {b0 : Nat} (h : Fil A go n d X) (hg : A.grownBy B row) (hr : ∀ r, row = some r → b0 ≤ r ∧ ∃ o : Obj, A.heap[r]? = some o ∧ o.isCells = false) : Fil B go n d X := by
  obtain ⟨L, h1, h2, h3⟩ := h
  exact ⟨L, h1, h2, Row.nc (show Row A go 5 _ from h3) hg hr⟩
/-- what stands between two rounds -/
structure StrI (w : World) (b5 go b8 b9 b10 n s : Nat) (X : List UInt8) (k : Nat) (W : World) : Prop where
  rn : Row W b5 3 #[.int .i64 (n : Int)]
  ro : Fil W go n (dnN s n k) X
  rb : Row W b8 34 #[.slice (some ⟨go, 0, none⟩) n n]
  rd : Row W b9 3 #[.int .i64 (dnN s n k : Int)]
  rs : Row W b10 3 #[.int .i64 (skN s k : Int)]
  gr : w.grownBy W none
theorem StrI.nc {w A B : World} {b5 go b8 b9 b10 n s : Nat} {X : List UInt8} {k : Nat} {row : Option Nat} {b0 : Nat} (hs : StrI w b5 go b8 b9 b10 n s X k A) (hg : A.grownBy B row) (hb : w.heap.size ≤ b0) (hr : ∀ r, row = some r → b0 ≤ r ∧ ∃ o : Obj, A.heap[r]? = some o ∧ o.isCells = false) : StrI w b5 go b8 b9 b10 n s X k B :=
  ⟨hs.rn.nc hg hr, hs.ro.nc hg hr, hs.rb.nc hg hr, hs.rd.nc hg hr, hs.rs.nc hg hr, grown_nc hs.gr hg hb hr⟩
theorem StrI.grown {w A B : World} {b5 go b8 b9 b10 n s : Nat} {X : List UInt8} {k : Nat} (hs : StrI w b5 go b8 b9 b10 n s X k A) (hg : A.grownBy B none) : StrI w b5 go b8 b9 b10 n s X k B :=
  ⟨hs.rn.grown hg, hs.ro.grown hg, hs.rb.grown hg, hs.rd.grown hg, hs.rs.grown hg, grownBy_trans hs.gr hg⟩
/-- what is told of the act behind the assignment -/
def StrA (key : List UInt8) (go fr : Nat) (t : Array Value) (pre : List Bk) (x : Bk) (a' : Act) (W : World) : Prop :=
  ∃ g, go ≠ g ∧ Row W g 24 (cellsB x.b) ∧ a' = { tmps := ((t.setIfInBounds 41 (.int .u64 (x.n : Int))).setIfInBounds 42 (aggB x.b)).setIfInBounds 12 (.pointer (some ⟨g, 0, none⟩)), defers := [] } ∧ x.n = fr + pre.length ∧ x.b = ksB key x.n
/-- the condition in the region -/
def StrS (W0 : World) (go n d : Nat) (X : List UInt8) (u : World) : Prop := Ch (fun g => g = go) W0 u ∧ Fil u go n d X
theorem clo_strS (W0 : World) (go n d : Nat) (X : List UInt8) : Clo (StrS W0 go n d X) := fun _ _ h hg => ⟨h.1.then hg, h.2.grown hg⟩
theorem Fil.less {W : World} {go n d e : Nat} {X : List UInt8} (h : Fil W go n d X) (he : e ≤ d) : Fil W go n e X := by
  obtain ⟨L, h1, h2, h3⟩ := h
  refine ⟨L, h1, ?_, h3⟩
  have := congrArg (List.take e) h2
  rwa [List.take_take, List.take_take, Nat.min_eq_left he] at this

theorem slice_blk (u : World) (g sk : Nat) (h : sk < 16) : (Instr.sliceAt 24 (.pointer (some ⟨g, 0, none⟩)) (some (.int .i64 (sk : Int))) none none).run Try.prog u = .ok (.slice (some ⟨g, sk, none⟩) (16 - sk) (16 - sk)) u := by
  have hl : Try.prog.arrayLen 24 = 16 := by kernel_rfl
  have he : Try.prog.elem 24 = 5 := by kernel_rfl
  have hz : (sizeOf (Try.prog.elem 24)).run Try.prog u = .ok 1 u := by
    obtain ⟨i, hi, hz, hs, hb⟩ := elB.info
    rw [he]
    simp [sizeOf, typeInfo, hi, hs]
  rw [run_sliceAt_array_l (P := Try.prog) u 24 ⟨g, 0, none⟩ (by kernel_rfl) .i64 (sk : Int) (by omega) (by rw [hl]; omega), hl]
  have hne : ¬ 16 = sk := by omega
  simp [hz, slicedAt, Addr.add, hne, Result.andThen]
  all_goals omega
theorem run_copy_op (w : World) (ev : Operand → Value) {o : Oper} (d s : Operand) (ho : o.op = .call { callee := .builtin .copy, args := #[d, s], argTypes := #[34, 34] }) (go off dl dc gs so sl sc : Nat) (hd : ev d = .slice (some ⟨go, off, none⟩) dl dc)
    (hs : ev s = .slice (some ⟨gs, so, none⟩) sl sc) (L cs : List UInt8) (hL : BRow w go 5 L) (hn : cs.length = Nat.min sl dl) (hsrc : ∀ j (hj : j < cs.length), w.cell? ⟨gs, so + j, none⟩ = some (bval cs[j])) (hfit : off + cs.length ≤ L.length) :
    ∃ w1, (execOp ev o).run Try.prog w = .ok (.value (.int .i64 (cs.length : Int))) w1 ∧ BRow w1 go 5 (L.take off ++ (cs ++ L.drop (off + cs.length))) ∧ w.grownBy w1 (some go) := by
  have hr := run_copy_row (P := Try.prog) w 34 34 o.type 5 go off dl dc ⟨gs, so, none⟩ sl sc (rowB L) 5 (cs.map bval) Try.underlying34 (by kernel_rfl) hL (by rw [List.length_map]; exact hn)
    (fun j v hj => by
      rw [List.getElem?_map] at hj
      have hjl : j < cs.length := by
        rcases Nat.lt_or_ge j cs.length with h | h
        · exact h
        · rw [List.getElem?_eq_none h] at hj; cases hj
      rw [List.getElem?_eq_getElem hjl] at hj
      injection hj with hj
      have ha : (⟨gs, so, none⟩ : Addr).add j = ⟨gs, so + j, none⟩ := by unfold Addr.add; split <;> simp_all
      rw [ha, hsrc j hjl, ← hj]) (by rw [List.length_map, rowB_size]; exact hfit) (fun v hv => by
      obtain ⟨y, _, rfl⟩ := List.mem_map.1 hv
      rfl)
  have hcs : ((rowB L).toList.take off ++ cs.map bval ++ (rowB L).toList.drop (off + (cs.map bval).length)).toArray = rowB (L.take off ++ (cs ++ L.drop (off + cs.length))) := by
    unfold rowB
    simp [List.map_take, List.map_drop]
  rw [hcs] at hr
  refine ⟨_, ?_, setRow_heap w go _ _ 5 (0, 0) hL, grownBy_setRow w go _⟩
  simp [execOp, ho, resolve, invoke, builtin, hd, hs, hr, Result.andThen, goInt]
theorem wp_copy_op {o : Oper} {a : Act} {w : World} {K : Act → World → Prop} {Q : Exit → Act → World → Prop} (d s : Operand) (ho : o.op = .call { callee := .builtin .copy, args := #[d, s], argTypes := #[34, 34] }) (go off dl dc gs so sl sc : Nat) (hd : a.eval d = .slice (some ⟨go, off, none⟩) dl dc)
    (hs : a.eval s = .slice (some ⟨gs, so, none⟩) sl sc) (L cs : List UInt8) (hL : BRow w go 5 L) (hn : cs.length = Nat.min sl dl) (hsrc : ∀ j (hj : j < cs.length), w.cell? ⟨gs, so + j, none⟩ = some (bval cs[j])) (hfit : off + cs.length ≤ L.length)
    (h : ∀ w1, BRow w1 go 5 (L.take off ++ (cs ++ L.drop (off + cs.length))) → w.grownBy w1 (some go) → K (a.put o.dst (.int .i64 (cs.length : Int))) w1) : o.wp Try.prog a w K Q := by
  obtain ⟨w1, hr, h1, h2⟩ := run_copy_op w a.eval d s ho go off dl dc gs so sl sc hd hs L cs hL hn hsrc hfit
  exact wp_val_op hr (h w1 h1 h2)
theorem i64_small (x : Int) (h1 : 0 ≤ x) (h2 : x ≤ 4000000100) : IntKind.i64.wrap x = x := IntWalk.i64_in _ (by omega)
theorem uint_info1 : (Try.prog.info? 3).map (·.size) = some 1 := by kernel_rfl
set_option maxRecDepth 100000 in
set_option maxHeartbeats 3000000 in
theorem stream_ok (key : List UInt8) (hkl : key.length = 16) (p n : Nat) (hp : p ≤ 4611686018427387904) (hn0 : 0 < n) (hn : n ≤ 4000000100) (hpn : n ≤ 4611686018427387904 - p) (X : List UInt8) (hX : X = kst (ksB key) p n) (w : World) :
    Calls Try.prog 18 #[aggB key, .int .i64 (p : Int), .int .i64 (n : Int)] w fun e w' => ∃ g, e = .returned (.tuple #[.slice (some ⟨g, 0, none⟩) n n, .int .i64 0]) ∧ BOwn w' w.heap.size (some ⟨g, 0, none⟩) n n X ∧ w.grownBy w' none := by
  have HX := Lib.hid hX
  have HXL := Lib.hid (show X.length = n by rw [hX, kst_len])
  have HPN := Lib.hid hpn
  clear hX hpn
  obtain ⟨s, hs⟩ : ∃ s, s = p % 16 := ⟨_, rfl⟩
  obtain ⟨fr, hfr⟩ : ∃ fr, fr = p / 16 := ⟨_, rfl⟩
  have hs16 : s < 16 := by omega
  have HPS := Lib.hid (show p = 16 * fr + s by omega)
  have hfb : fr < 18446744073709551616 := by omega
  have hm1 : (p : Int).tmod 16 = (s : Int) := by rw [Int.tmod_eq_emod_of_nonneg (by omega)]; omega
  have hd1 : (p : Int).tdiv 16 = (fr : Int) := by rw [Int.tdiv_eq_ediv_of_nonneg (by omega)]; omega
  have hw1 : IntKind.i64.wrap (fr : Int) = (fr : Int) := IntWalk.i64_in _ (by omega)
  have hw2 : IntKind.u64.wrap (fr : Int) = (fr : Int) := IntWalk.u64_in _ (by omega)
  have hw3 : IntKind.i64.wrap (4611686018427387904 - (p : Int)) = 4611686018427387904 - (p : Int) := IntWalk.i64_in _ (by omega)
  have hw4 : wrap64 (fr : Int) = (fr : Int) := by rw [IntWalk.wrap64_in _ (by omega)]
  have HFB := Lib.hid hfb
  have hd2 : decide ((n : Int) < 0) = false := decide_eq_false (by omega)
  have hd3 : decide ((p : Int) < 0) = false := decide_eq_false (by omega)
  have hd4 : decide (4611686018427387904 < (p : Int)) = false := decide_eq_false (by omega)
  have hd5 : decide (4611686018427387904 - (p : Int) < (n : Int)) = false := decide_eq_false (by have := HPN.out; omega)
  have hd6 : decide ((n : Int) = 0) = false := by simp; omega
  have hd7 : ((n : Int) == 0) = false := by simp; omega
  have hd8 : decide (n = 0) = false := by simp; omega
  clear hs hfr hfb
  obtain ⟨is, his, hisz, hiss, _⟩ := info_parts (show (Try.prog.info? 34).map (fun i => (i.zero, i.size, i.bytes)) = some (some (.slice none 0 0), 1, 24) by kernel_rfl)
  obtain ⟨ii, hii, hiz, hisi, _⟩ := info_parts (show (Try.prog.info? 3).map (fun i => (i.zero, i.size, i.bytes)) = some (some (.int .i64 0), 1, 8) by kernel_rfl)
  obtain ⟨iu, hiu, hiuz, hius, hiub⟩ := info_parts (show (Try.prog.info? 5).map (fun i => (i.zero, i.size, i.bytes)) = some (some (.int .u8 0), 1, 1) by kernel_rfl)
  obtain ⟨ib, hib, hibz, hibs⟩ := block_info
  refine calls_of_wp_marks Try.func18 rfl ?_
  unfold aggB
  simp only [Try.ntmps18, List.size_toArray, List.length_cons, List.length_nil, Nat.reduceAdd, Nat.reduceSub, Array.replicate_succ, Array.replicate_zero, List.push_toArray, List.append_toArray, List.nil_append, List.cons_append]
  go_upto_region 1 with (first
    | (refine wpList_boxed rfl rfl (cellsB key) rfl ?_; intro W1 hs1 hg1 hr1; have HS1 := Lib.hid hs1; have HG1 := Lib.hid hg1; have HR1 := Lib.hid hr1; clear hs1 hg1 hr1)
    | (refine wpList_box1 rfl rfl (.int .i64 (n : Int)) rfl rfl ?_; intro W2 hs2 hg2 hr2; have HS2 := Lib.hid hs2; have HG2 := Lib.hid (grownBy_trans HG1.out hg2); have HR2 := Lib.hid hr2; have HK2 := Lib.hid (HR1.out.grown hg2); have c2 := Row.cell hr2 0; simp at c2; clear hs2 hg2 hr2))
  go_upto_region 10 with (first
    | (refine wpList_mkB rfl _ _ _ rfl _ Try.underlying34 hiu hiuz hius hiub n rfl rfl (by omega) ?_; intro W3 hs3 hg3 hr3; have HS3 := Lib.hid hs3; have HG3 := Lib.hid (grownBy_trans HG2.out hg3); have HR3 := Lib.hid hr3; have HN3 := Lib.hid (HR2.out.grown hg3); have HK3 := Lib.hid (HK2.out.grown hg3); have c3 := Row.cell HN3.out 0; simp at c3; clear hs3 hg3 hr3)
    | (refine wpList_fresh1 rfl rfl rfl rfl rfl his hisz hiss rfl (.slice (some ⟨W2.heap.size, 0, none⟩) n n) rfl rfl rfl ?_; intro W4 hs4 hg4 hr4; have HS4 := Lib.hid hs4; have HG4 := Lib.hid (grownBy_trans HG3.out hg4); have HR4 := Lib.hid hr4; have HO4 := Lib.hid (BRow.grown HR3.out hg4); have HN4 := Lib.hid (HN3.out.grown hg4); have HK4 := Lib.hid (HK3.out.grown hg4); clear hs4 hg4 hr4)
    | (refine wpList_fresh1 rfl rfl rfl rfl rfl hii hiz hisi rfl (.int .i64 0) rfl rfl rfl ?_; intro W5 hs5 hg5 hr5; have HS5 := Lib.hid hs5; have HG5 := Lib.hid (grownBy_trans HG4.out hg5); have HR5 := Lib.hid hr5; have HB5 := Lib.hid (HR4.out.grown hg5); have HO5 := Lib.hid (BRow.grown HO4.out hg5); have HN5 := Lib.hid (HN4.out.grown hg5); have HK5 := Lib.hid (HK4.out.grown hg5); clear hs5 hg5 hr5)
    | (refine wpList_fresh1 rfl rfl rfl rfl rfl hii hiz hisi rfl (.int .i64 (s : Int)) rfl rfl rfl ?_; intro W6 hs6 hg6 hr6; have HS6 := Lib.hid hs6; have HG6 := Lib.hid (grownBy_trans HG5.out hg6); have HR6 := Lib.hid hr6; have HD6 := Lib.hid (HR5.out.grown hg6); have HB6 := Lib.hid (HB5.out.grown hg6); have HO6 := Lib.hid (BRow.grown HO5.out hg6); have HN6 := Lib.hid (HN5.out.grown hg6); have HK6 := Lib.hid (HK5.out.grown hg6); clear hs6 hg6 hr6))
  clear c2 c3 hd2 hd3 hd4 hd5 hd6 hd7 hd8 hw3
  go_wp2_with (first
    | (refine wpList_load_row rfl 27 _ rfl w.heap.size rfl 27 (cellsB key) (0, 0) _ HK6.out Try.underlying27 rfl (by rw [cellsB_size, hkl]; kernel_rfl) ?_)
    | (go_at_call 15; refine (blocks_n key hkl fr _).mono ?_; rintro e W7 ⟨b1, b2, rfl, hb1, hb2, hlt, hle, hg7⟩; have HB1 := Lib.hid hb1; have HB2 := Lib.hid hb2; have HLE := Lib.hid hle; have HG7 := Lib.hid (grownBy_trans HG6.out hg7); have HSI := Lib.hid hg7.size; have HI7 := Lib.hid (show StrI w W1.heap.size W2.heap.size W3.heap.size W4.heap.size W5.heap.size n s X 0 W7 from ⟨HN6.out.grown hg7, ⟨List.replicate n 0, by simp, by rw [dn_zero]; simp, BRow.grown HO6.out hg7⟩, HB6.out.grown hg7, by rw [dn_zero]; exact HD6.out.grown hg7, HR6.out.grown hg7, grownBy_trans HG6.out hg7⟩); clear hb1 hb2 hlt hle hg7))
  have hord : w.heap.size < W1.heap.size ∧ W1.heap.size < W2.heap.size ∧ W2.heap.size < W3.heap.size ∧ W3.heap.size < W4.heap.size ∧ W4.heap.size < W5.heap.size ∧ W5.heap.size < W6.heap.size ∧ W6.heap.size ≤ W7.heap.size := by
    have h1 := HS1.out
    have h2 := HS2.out
    have h3 := HS3.out
    have h4 := HS4.out
    have h5 := HS5.out
    have h6 := HS6.out
    have h7 := HSI.out
    omega
  obtain ⟨b5, hb5⟩ : ∃ b5, b5 = W1.heap.size := ⟨_, rfl⟩
  obtain ⟨go, hgo⟩ : ∃ go, go = W2.heap.size := ⟨_, rfl⟩
  obtain ⟨b8, hb8⟩ : ∃ b8, b8 = W3.heap.size := ⟨_, rfl⟩
  obtain ⟨b9, hb9⟩ : ∃ b9, b9 = W4.heap.size := ⟨_, rfl⟩
  obtain ⟨b10, hb10⟩ : ∃ b10, b10 = W5.heap.size := ⟨_, rfl⟩
  rw [← hb5, ← hgo, ← hb8, ← hb9, ← hb10] at hord HI7
  rw [← hb5, ← hgo, ← hb8, ← hb9, ← hb10]
  clear hm1 hd1 hw1 hw2 hw4
  have hord2 : w.heap.size ≤ W7.heap.size := by omega
  have HORD := Lib.hid hord
  have HWW := Lib.hid hord2
  clear hb5 hgo hb8 hb9 hb10 hord hord2 HS1 HS2 HS3 HS4 HS5 HS6 HG1 HG2 HG3 HG4 HG5 HG6 HR1 HR2 HK2 HR3 HN3 HK3 HR4 HO4 HN4 HK4 HR5 HB5 HO5 HN5 HK5 HR6 HD6 HB6 HO6 HN6 HK6
  refine (wpIn_wide (n := 3)).1 ?_
  refine wpIn_rangeOkHA (F := Fence.wide) (n := 3) rfl (by omega) (gf := 36) (lb := #[.pointer (some ⟨b1, 0, none⟩), .pointer (some ⟨b2, 0, none⟩)]) rfl trivial (enters_of Try.func36 (by kernel_rfl) rfl)
    (blocks1_in 2 b1 b2 key hkl fr HFB.out W7 HB1.out HB2.out) KeptAb.trans (fun W l o o' _ hl ho _ => KeptAb.put W l o o' hl ho)
    (fun t pre x _ a' W => StrA key go fr t pre x a' W) (fun t pre x W0 a' W l o o' ⟨g, hg, hr, ha, hx⟩ hl ho => ⟨g, hg, hr.nc (grownBy_putObj' W l o') (b0 := l) (fun r e => by cases e; exact ⟨Nat.le_refl _, o, hl, ho⟩), ha, hx⟩)
    (Below.refl _ _) (fun _ => rfl)
    (fun pre W => StrI w b5 go b8 b9 b10 n s X pre.length W ∧ dnN s n pre.length < n) (fun c pre W => c = .exit 1 ∧ StrI w b5 go b8 b9 b10 n s X pre.length W ∧ dnN s n pre.length = n)
    (fun _ _ _ _ hs hg hr => ⟨hs.1.nc hg HWW.out hr, hs.2⟩) (fun _ _ _ _ _ hs hg hr => ⟨hs.1, hs.2.1.nc hg HWW.out hr, hs.2.2⟩)
    ⟨HI7.out, by rw [List.length_nil, dn_zero]; exact hn0⟩ ?assign ?body ?done ?stop
  case assign =>
    rintro lp pre x W0 W K hI0 hI hkc hok hK
    have hxl : x.b.length = 16 := by rw [hok.2.2]; exact ksB_len key _
    have HK := Lib.hid hK
    have HI := Lib.hid hI
    clear hI hK hI0 hkc
    obtain ⟨xn, xb⟩ := x
    simp only at hxl
    have hxo := hok
    have HOK := Lib.hid hok
    clear hok
    simp only [Bk.vals, aggB, List.zip_toArray, List.foldl_toArray', List.size_toArray, List.zip_cons_cons, List.zip_nil_right, List.foldl_cons, List.foldl_nil, List.setIfInBounds_toArray, List.set_cons_zero, List.set_cons_succ]
    refine wpIn_regionP (by kernel_rfl) ?_
    refine wpList_fresh rfl rfl rfl rfl rfl hib hibz hibs (cellsB xb) rfl rfl (by rw [cellsB_size, hxl]; rfl) (cellsB_one _) ?_
    intro W8 hs8 hg8 hr8
    have HG8 := Lib.hid hg8; have HR8 := Lib.hid hr8; clear hs8 hg8 hr8
    refine ⟨rfl, ?_⟩
    refine HK.out _ _ (KeepsFrom.ch (Ch.ofNone HG8.out (fun _ => False)) (fun _ h => h.elim)) (KeptAb.of HG8.out) ⟨HI.out.1.grown HG8.out, HI.out.2⟩ ⟨W.heap.size, ?_, HR8.out, rfl, HOK.out.1, HOK.out.2.2⟩
    obtain ⟨L, _, _, hL⟩ := HI.out.1.ro
    exact Nat.ne_of_lt hL.lt
  case stop =>
    rintro D c pre W hD _ ⟨rfl, hI, hdn⟩ hK
    have HI := Lib.hid hI
    have HK := Lib.hid hK
    have HD := Lib.hid hD
    have HDN := Lib.hid hdn
    have c8 := Row.cell hI.rb 0
    simp at c8
    clear hI hK hD hdn
    gi_wp2
    go_wp2_with fail
    have hr : ∀ r, some D = some r → w.heap.size ≤ r ∧ ∃ o : Obj, W.heap[r]? = some o ∧ o.isCells = false := fun r e => by
      cases e
      exact ⟨Nat.le_trans HWW.out HD.out, _, HK.out, rfl⟩
    obtain ⟨L, hL1, hL2, hL3⟩ := HI.out.ro
    rw [HDN.out, List.take_of_length_le (by omega), List.take_of_length_le (by rw [HXL.out]; exact Nat.le_refl _)] at hL2
    subst hL2
    have ho : BOwn W w.heap.size (some ⟨go, 0, none⟩) n n L := hL3.own (by have := HORD.out; omega) n hL1 (by unfold maxLen; omega)
    refine ⟨by simp, .inl ⟨_, _, rfl, run_takeDeferred HK.out, ?_⟩⟩
    exact ⟨_, results_tmp2 rfl _ _ _, _, rfl, Own.nc ho (grownBy_putObj' W D _) hr, grown_nc HI.out.gr (grownBy_putObj' W D _) (Nat.le_refl _) hr⟩
  case done =>
    rintro D xs W hD hS ⟨_, hlt⟩ hK
    have := dn_fill (s := s) (n := n) (k := xs.length) hs16 (by have := HPS.out; omega)
    omega
  case body =>
    rintro lp pre ⟨xn, xb⟩ W0 a' W ⟨hI, hlt⟩ ⟨g12, hg12, hr12, rfl, hxn, hxb⟩
    simp only at hr12 hxn hxb
    obtain ⟨k, hk⟩ : ∃ k, k = pre.length := ⟨_, rfl⟩
    have hkk : ∀ y : Bk, (pre ++ [y]).length = k + 1 := fun y => by rw [List.length_append, List.length_singleton, hk]
    rw [← hk] at hI hlt hxn
    have hxl : xb.length = 16 := by rw [hxb]; exact ksB_len key _
    obtain ⟨d, hd⟩ : ∃ d, d = dnN s n k := ⟨_, rfl⟩
    obtain ⟨sk, hsk⟩ : ∃ sk, sk = skN s k := ⟨_, rfl⟩
    obtain ⟨m, hm⟩ : ∃ m, m = min (16 - sk) (n - d) := ⟨_, rfl⟩
    have hsk16 : sk < 16 := hsk ▸ sk_lt hs16 k
    have hdm : d + m = dnN s n (k + 1) := by rw [hm, hsk, hd]; exact dn_succ hs16 hlt
    have hpc : ∀ i, i < m → (xb.drop sk)[i]? = X[d + i]? := fun i hi => by
      rw [HX.out, hsk, hd, hxb, hxn]
      exact kst_piece (ksB key) (ksB_len key) HPS.out hs16 hlt i (by rw [← hsk, ← hd, ← hm]; exact hi)
    have hcs : X.take d ++ (xb.drop sk).take m = X.take (d + m) := by
      rw [List.take_add]
      congr 1
      apply List.ext_getElem?
      intro i
      rw [List.getElem?_take, List.getElem?_take, List.getElem?_drop, List.getElem?_drop]
      by_cases hi : i < m
      · rw [if_pos hi, if_pos hi]; have h := hpc i hi; rw [List.getElem?_drop] at h; exact h
      · rw [if_neg hi, if_neg hi]
    obtain ⟨cs, hcse⟩ : ∃ cs, cs = (xb.drop sk).take m := ⟨_, rfl⟩
    have hcl : cs.length = m := by rw [hcse, List.length_take, List.length_drop, hxl]; omega
    rw [← hcse] at hcs
    have hrn := hI.rn
    have hro := hI.ro
    have hrb := hI.rb
    have hrd := hI.rd
    have hrs := hI.rs
    have hgr := hI.gr
    rw [← hd] at hro hrd hlt
    rw [← hsk] at hrs
    have hz := HORD.out
    have hc9 : ∀ u, StrS W go n d X u → u.cell? ⟨b9, 0, none⟩ = some (.int .i64 (d : Int)) := fun u hu => by
      have h := Row.cell (hrd.ch hu.1 (by omega)) 0
      simpa using h
    have hc8 : ∀ u, StrS W go n d X u → u.cell? ⟨b8, 0, none⟩ = some (.slice (some ⟨go, 0, none⟩) n n) := fun u hu => by
      have h := Row.cell (hrb.ch hu.1 (by omega)) 0
      simpa using h
    have hc10 : ∀ u, StrS W go n d X u → u.cell? ⟨b10, 0, none⟩ = some (.int .i64 (sk : Int)) := fun u hu => by
      have h := Row.cell (hrs.ch hu.1 (by omega)) 0
      simpa using h
    have HC9 := Lib.hid hc9
    have HC8 := Lib.hid hc8
    have HC10 := Lib.hid hc10
    have HR12 := Lib.hid hr12
    have HRN := Lib.hid hrn
    have HRO := Lib.hid hro
    have HRB := Lib.hid hrb
    have HRD := Lib.hid hrd
    have HRS := Lib.hid hrs
    have HGR := Lib.hid hgr
    have HDM := Lib.hid hdm
    have HCS := Lib.hid hcs
    have HCL := Lib.hid hcl
    have HCSE := Lib.hid hcse
    have HM := Lib.hid hm
    have HKK := Lib.hid hkk
    have HXLE := Lib.hid hxl
    clear hc9 hc8 hc10 hr12 hrn hro hrb hrd hrs hgr hdm hcs hcl hcse hpc hm hI hk hkk hd hsk hxl hxb hxn hz
    simp only [List.setIfInBounds_toArray, List.set_cons_zero, List.set_cons_succ]
    refine wpIn_block ?_
    refine wpIn_seq ?_
    refine wpIn_regionX (StrS W go n d X) 8 (by kernel_rfl) (by kernel_rfl) ⟨Ch.ofNone (grownBy_drewN W 1 none) _, HRO.out.grown (grownBy_drewN W 1 none)⟩ ?_

    refine wpX_take 0 (v := .int .i64 (d : Int)) (oi := { dst := some 43, op := Op.load 3 (Operand.tmp 9), type := 3, pos := "ctr.go:48", after := #[], guard := none }) (oL := { dst := none, op := Op.store 3 (Operand.tmp 9) (Operand.tmp 50), type := 0, pos := "ctr.go:48", after := #[{ on := 7, ground := Ground.data }, { on := 6, ground := Ground.chain }, { on := 0, ground := Ground.phase }, { on := 1, ground := Ground.phase }, { on := 2, ground := Ground.phase }, { on := 3, ground := Ground.phase }, { on := 4, ground := Ground.phase }, { on := 5, ground := Ground.phase }, { on := 6, ground := Ground.phase }, { on := 7, ground := Ground.phase }], guard := none }) (clo_strS _ _ _ _ _) rfl rfl rfl (by kernel_rfl) (by kernel_rfl) (by kernel_rfl) (by kernel_rfl) (by kernel_rfl) (fun _ _ _ h => by cases h.1) (YG.val (by rfl) (fun u hu => by have hc := HC9.out u hu; go_simp)) ?_
    simp only [Act.put, List.setIfInBounds_toArray, List.set_cons_zero, List.set_cons_succ]
    refine wpX_take 1 (v := .slice (some ⟨go, 0, none⟩) n n) (oi := { dst := some 44, op := Op.load 34 (Operand.tmp 8), type := 34, pos := "ctr.go:48", after := #[], guard := none }) (oL := { dst := none, op := Op.store 3 (Operand.tmp 9) (Operand.tmp 50), type := 0, pos := "ctr.go:48", after := #[{ on := 7, ground := Ground.data }, { on := 6, ground := Ground.chain }, { on := 0, ground := Ground.phase }, { on := 1, ground := Ground.phase }, { on := 2, ground := Ground.phase }, { on := 3, ground := Ground.phase }, { on := 4, ground := Ground.phase }, { on := 5, ground := Ground.phase }, { on := 6, ground := Ground.phase }, { on := 7, ground := Ground.phase }], guard := none }) (clo_strS _ _ _ _ _) rfl rfl rfl (by kernel_rfl) (by kernel_rfl) (by kernel_rfl) (by kernel_rfl) (by kernel_rfl) (fun _ _ _ h => by cases h.1) (YG.val (by rfl) (fun u hu => by have hc := HC8.out u hu; go_simp)) ?_
    simp only [Act.put, List.setIfInBounds_toArray, List.set_cons_zero, List.set_cons_succ]
    refine wpX_take 2 (v := .int .i64 (d : Int)) (oi := { dst := some 45, op := Op.load 3 (Operand.tmp 9), type := 3, pos := "ctr.go:48", after := #[], guard := none }) (oL := { dst := none, op := Op.store 3 (Operand.tmp 9) (Operand.tmp 50), type := 0, pos := "ctr.go:48", after := #[{ on := 7, ground := Ground.data }, { on := 6, ground := Ground.chain }, { on := 0, ground := Ground.phase }, { on := 1, ground := Ground.phase }, { on := 2, ground := Ground.phase }, { on := 3, ground := Ground.phase }, { on := 4, ground := Ground.phase }, { on := 5, ground := Ground.phase }, { on := 6, ground := Ground.phase }, { on := 7, ground := Ground.phase }], guard := none }) (clo_strS _ _ _ _ _) rfl rfl rfl (by kernel_rfl) (by kernel_rfl) (by kernel_rfl) (by kernel_rfl) (by kernel_rfl) (fun _ _ _ h => by cases h.1) (YG.val (by rfl) (fun u hu => by have hc := HC9.out u hu; go_simp)) ?_
    simp only [Act.put, List.setIfInBounds_toArray, List.set_cons_zero, List.set_cons_succ]
    refine wpX_take 3 (v := .slice (some ⟨go, d, none⟩) (n - d) (n - d)) (oi := { dst := some 46, op := Op.slice 34 (Operand.tmp 44) (some (Operand.tmp 45)) none none, type := 34, pos := "ctr.go:48", after := #[{ on := 1, ground := Ground.data }, { on := 2, ground := Ground.data }], guard := none }) (oL := { dst := none, op := Op.store 3 (Operand.tmp 9) (Operand.tmp 50), type := 0, pos := "ctr.go:48", after := #[{ on := 7, ground := Ground.data }, { on := 6, ground := Ground.chain }, { on := 0, ground := Ground.phase }, { on := 1, ground := Ground.phase }, { on := 2, ground := Ground.phase }, { on := 3, ground := Ground.phase }, { on := 4, ground := Ground.phase }, { on := 5, ground := Ground.phase }, { on := 6, ground := Ground.phase }, { on := 7, ground := Ground.phase }], guard := none }) (clo_strS _ _ _ _ _) rfl rfl rfl (by kernel_rfl) (by kernel_rfl) (by kernel_rfl) (by kernel_rfl) (by kernel_rfl) (fun _ _ _ h => by cases h.1) (YG.val (by rfl) (fun u hu => by go_simp; rw [if_pos (by omega), if_neg (by omega)])) ?_
    simp only [Act.put, List.setIfInBounds_toArray, List.set_cons_zero, List.set_cons_succ]
    refine wpX_take 4 (v := .int .i64 (sk : Int)) (oi := { dst := some 47, op := Op.load 3 (Operand.tmp 10), type := 3, pos := "ctr.go:48", after := #[], guard := none }) (oL := { dst := none, op := Op.store 3 (Operand.tmp 9) (Operand.tmp 50), type := 0, pos := "ctr.go:48", after := #[{ on := 7, ground := Ground.data }, { on := 6, ground := Ground.chain }, { on := 0, ground := Ground.phase }, { on := 1, ground := Ground.phase }, { on := 2, ground := Ground.phase }, { on := 3, ground := Ground.phase }, { on := 4, ground := Ground.phase }, { on := 5, ground := Ground.phase }, { on := 6, ground := Ground.phase }, { on := 7, ground := Ground.phase }], guard := none }) (clo_strS _ _ _ _ _) rfl rfl rfl (by kernel_rfl) (by kernel_rfl) (by kernel_rfl) (by kernel_rfl) (by kernel_rfl) (fun _ _ _ h => by cases h.1) (YG.val (by rfl) (fun u hu => by have hc := HC10.out u hu; go_simp)) ?_
    simp only [Act.put, List.setIfInBounds_toArray, List.set_cons_zero, List.set_cons_succ]
    refine wpX_take 5 (v := .slice (some ⟨g12, sk, none⟩) (16 - sk) (16 - sk)) (oi := { dst := some 48, op := Op.slice 24 (Operand.tmp 12) (some (Operand.tmp 47)) none none, type := 34, pos := "ctr.go:48", after := #[{ on := 4, ground := Ground.data }], guard := none }) (oL := { dst := none, op := Op.store 3 (Operand.tmp 9) (Operand.tmp 50), type := 0, pos := "ctr.go:48", after := #[{ on := 7, ground := Ground.data }, { on := 6, ground := Ground.chain }, { on := 0, ground := Ground.phase }, { on := 1, ground := Ground.phase }, { on := 2, ground := Ground.phase }, { on := 3, ground := Ground.phase }, { on := 4, ground := Ground.phase }, { on := 5, ground := Ground.phase }, { on := 6, ground := Ground.phase }, { on := 7, ground := Ground.phase }], guard := none }) (clo_strS _ _ _ _ _) rfl rfl rfl (by kernel_rfl) (by kernel_rfl) (by kernel_rfl) (by kernel_rfl) (by kernel_rfl) (fun _ _ _ h => by cases h.1) (YG.val (by rfl) (fun u hu => by go_simp; rw [slice_blk u g12 sk hsk16]; rfl)) ?_
    simp only [Act.put, List.setIfInBounds_toArray, List.set_cons_zero, List.set_cons_succ]
    refine wpX_step 6 (o := { dst := some 49, op := Op.call { callee := Callee.builtin Builtin.copy, args := #[Operand.tmp 46, Operand.tmp 48], argTypes := #[34, 34] }, type := 3, pos := "ctr.go:48", after := #[{ on := 3, ground := Ground.data }, { on := 5, ground := Ground.data }], guard := none }) rfl rfl (by kernel_rfl) (by rfl) (fun u hS K hK => ?_)
    obtain ⟨L, hL1, hL2, hL3⟩ := hS.2
    have hr12u : Row u g12 24 (cellsB xb) := HR12.out.ch hS.1 (fun e => hg12 e.symm)
    have HK := Lib.hid hK
    clear hK
    refine wp_copy_op (.tmp 46) (.tmp 48) rfl go d (n - d) (n - d) g12 sk (16 - sk) (16 - sk) rfl rfl L cs hL3 (by rw [HCL.out, HM.out]) (fun j hj => by
      rw [Row.cell hr12u (sk + j)]
      have h1 : j < m := by rw [← HCL.out]; exact hj
      have h2 : sk + j < xb.length := by rw [HXLE.out]; have := HM.out; omega
      have h3 : cs[j] = xb[sk + j] := by
        have e : cs[j]? = xb[sk + j]? := by rw [HCSE.out, List.getElem?_take, if_pos h1, List.getElem?_drop]
        rw [List.getElem?_eq_getElem hj, List.getElem?_eq_getElem h2] at e
        exact Option.some.inj e
      rw [h3]
      simp [cellsB, h2]) (by rw [HCL.out, hL1]; have := HM.out; omega) ?_
    rw [HCL.out]
    intro u2 hrow2 hgr2
    have hfil2 : Fil u2 go n (d + m) X := by
      refine ⟨_, ?_, ?_, hrow2⟩
      · rw [List.length_append, List.length_append, List.length_take, List.length_drop, HCL.out, hL1]; have := HM.out; omega
      · have e1 : (L.take d).length = d := by rw [List.length_take, hL1]; omega
        have e2 : (L.take d ++ (cs ++ L.drop (d + m))).take (d + m) = L.take d ++ cs := by
          rw [← List.append_assoc, List.take_append_of_le_length (by rw [List.length_append, e1, HCL.out]; exact Nat.le_refl _)]
          exact List.take_of_length_le (by rw [List.length_append, e1, HCL.out]; exact Nat.le_refl _)
        rw [e2, hL2]
        exact HCS.out
    have hS2 : StrS W go n (d + m) X u2 := ⟨hS.1.trans (Ch.ofSome (S := fun g => g = go) hgr2 rfl) (fun _ _ h => h), hfil2⟩
    clear hS hL1 hL2 hL3 hr12u hrow2 hfil2 hgr2
    refine HK.out (StrS W go n (d + m) X) _ _ hS2 (fun u h => ⟨h.1, h.2.less (by omega)⟩) (clo_strS _ _ _ _ _) ?_
    clear hS2 HK
    simp only [Act.put, List.setIfInBounds_toArray, List.set_cons_zero, List.set_cons_succ]
    have HWB := Lib.hid (i64_small ((d : Int) + (m : Int)) (by omega) (by have := HM.out; omega))
    have hwa : wrap64 ((d : Int) + (m : Int)) = ((d + m : Nat) : Int) := by rw [IntWalk.wrap64_in _ (by have := HM.out; omega)]; omega
    have HWA := Lib.hid hwa
    clear hwa
    refine wpX_take 7 (v := .int .i64 ((d + m : Nat) : Int)) (oi := { dst := some 50, op := Op.binOp BinOp.add 3 (Operand.tmp 43) (Operand.tmp 49) 3, type := 3, pos := "ctr.go:48", after := #[{ on := 0, ground := Ground.data }, { on := 6, ground := Ground.data }], guard := none }) (oL := { dst := none, op := Op.store 3 (Operand.tmp 9) (Operand.tmp 50), type := 0, pos := "ctr.go:48", after := #[{ on := 7, ground := Ground.data }, { on := 6, ground := Ground.chain }, { on := 0, ground := Ground.phase }, { on := 1, ground := Ground.phase }, { on := 2, ground := Ground.phase }, { on := 3, ground := Ground.phase }, { on := 4, ground := Ground.phase }, { on := 5, ground := Ground.phase }, { on := 6, ground := Ground.phase }, { on := 7, ground := Ground.phase }], guard := none }) (clo_strS _ _ _ _ _) rfl rfl rfl (by kernel_rfl) (by kernel_rfl) (by kernel_rfl) (by kernel_rfl) (by kernel_rfl) (fun _ _ _ h => by cases h.1) (YG.val (by rfl) (fun _ _ => by have hwa := HWA.out; go_simp; exact HWB.out)) ?_
    simp only [Act.put, List.setIfInBounds_toArray, List.set_cons_zero, List.set_cons_succ]
    refine wpX_last (oL := { dst := none, op := Op.store 3 (Operand.tmp 9) (Operand.tmp 50), type := 0, pos := "ctr.go:48", after := #[{ on := 7, ground := Ground.data }, { on := 6, ground := Ground.chain }, { on := 0, ground := Ground.phase }, { on := 1, ground := Ground.phase }, { on := 2, ground := Ground.phase }, { on := 3, ground := Ground.phase }, { on := 4, ground := Ground.phase }, { on := 5, ground := Ground.phase }, { on := 6, ground := Ground.phase }, { on := 7, ground := Ground.phase }], guard := none }) rfl (by kernel_rfl) (by kernel_rfl) (by rfl) (fun u4 hS4 K4 hK4 => ?_)
    have hz := HORD.out
    have hrow4 : Row u4 b9 3 #[.int .i64 (d : Int)] := HRD.out.ch hS4.1 (by omega)
    have c14 := Row.cell hrow4 0
    have f14 := Row.frozen hrow4 0
    simp at c14
    refine wp_skip_op (w1 := u4.setCell ⟨b9, 0, none⟩ (.int .i64 ((d + m : Nat) : Int))) (by go_simp) (hK4 _ _ ⟨rfl, ?_⟩)
    simp only [Act.put]
    obtain ⟨w9, hw9⟩ : ∃ w9, w9 = u4.setCell ⟨b9, 0, none⟩ (.int .i64 ((d + m : Nat) : Int)) := ⟨_, rfl⟩
    rw [← hw9]
    have hg9 : u4.grownBy w9 (some b9) := hw9 ▸ grownBy_setCell _ _ _ _
    have hrow9 : Row w9 b9 3 #[.int .i64 ((d + m : Nat) : Int)] := hw9 ▸ Row.setc hrow4 0 _
    have hch9 : Ch (fun g => g = go ∨ g = b9 ∨ g = b10) W w9 := (hS4.1.mono (fun _ _ h => .inl h)).trans (Ch.ofSome (S := fun g => g = b9) hg9 rfl) (fun _ _ h => .inr (.inl h))
    have hfil9 : Fil w9 go n (d + m) X := hS4.2.ch (Ch.ofSome (S := fun g => g = b9) hg9 rfl) (by omega)
    have HROW9 := Lib.hid hrow9
    have HCH9 := Lib.hid hch9
    have HFIL9 := Lib.hid hfil9
    have HRS9 := Lib.hid ((HRS.out.ch hS4.1 (by omega)).ch (Ch.ofSome (S := fun g => g = b9) hg9 rfl) (by omega))
    clear hw9 hg9 hrow9 hch9 hfil9 hrow4 c14 f14 hS4 hK4 HC9 HC8 HC10 hz
    gi_step
    refine wpIn_seq ?_
    refine wpIn_regionP (by kernel_rfl) ?_
    refine wpList_put1 rfl rfl b10 rfl (.int .i64 0) rfl HRS9.out (by kernel_rfl) rfl ?_
    intro w10 hs10 hg10 hr10
    have hz := HORD.out
    have hfil10 : Fil w10 go n (d + m) X := HFIL9.out.ch (Ch.ofSome (S := fun g => g = b10) hg10 rfl) (by omega)
    have hch10 : Ch (fun g => g = go ∨ g = b9 ∨ g = b10) W w10 := HCH9.out.trans (Ch.ofSome (S := fun g => g = b10) hg10 rfl) (fun _ _ h => .inr (.inr h))
    have hrd10 : Row w10 b9 3 #[.int .i64 ((d + m : Nat) : Int)] := HROW9.out.ch (Ch.ofSome (S := fun g => g = b10) hg10 rfl) (by omega)
    have hrn10 := HRN.out.ch hch10 (by omega)
    have hrb10 := HRB.out.ch hch10 (by omega)
    have hgr10 : w.grownBy w10 none := Ch.fresh HGR.out hch10 (fun g hg hT => by omega)
    have c9 := Row.cell hrd10 0
    have c5 := Row.cell hrn10 0
    simp at c9 c5
    have hst : StrI w b5 go b8 b9 b10 n s X (k + 1) w10 := ⟨hrn10, HDM.out ▸ hfil10, hrb10, HDM.out ▸ hrd10, by rw [sk_succ]; exact hr10, hgr10⟩
    have HST := Lib.hid hst
    have HCH := Lib.hid hch10
    have HKF := Lib.hid (show KeepsFrom W7.heap.size W w10 from KeepsFrom.ch hch10 (fun g hS => by
      rcases hS with rfl | rfl | rfl
      · obtain ⟨L, _, _, hL⟩ := HRO.out
        exact ⟨_, _, _, hL⟩
      · exact ⟨_, _, _, HRD.out⟩
      · exact ⟨_, _, _, HRS.out⟩))
    have HKP := Lib.hid (show KeptAb W7.heap.size W w10 from KeptAb.ch hch10 (fun g hS => by omega))
    clear hfil10 hch10 hrd10 hrn10 hrb10 hgr10 hst hs10 hg10 hr10 hz HROW9 HCH9 HFIL9 HRS9
    refine ⟨rfl, ?_⟩
    rcases Nat.decEq (d + m) n with hne | hen
    · have hd1 : decide (((d + m : Nat) : Int) = (n : Int)) = false := decide_eq_false (by omega)
      have hd2 : ((((d + m : Nat) : Int)) == (n : Int)) = false := by simp; omega
      have hd3 : decide (d + m = n) = false := decide_eq_false hne
      gi_wp2
      exact ⟨HKF.out, HKP.out, by rw [HKK.out]; exact HST.out, by rw [HKK.out, ← HDM.out]; have := HM.out; omega⟩
    · gi_wp2
      exact ⟨HKF.out, rfl, by rw [HKK.out]; exact HST.out, by rw [HKK.out, ← HDM.out]; exact hen⟩
end Go.Proofs.Ytblgdfamomlklaa
