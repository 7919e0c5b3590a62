/- Helpers and contracts of the proofs over this seat: RegZ, WireReqP. Each states what a function of the program answers, or is plain Lean; its conditions stand in each statement. -/
import Derived.Test.YtkdmebcfedehiaaPtAA
import Derived.Test.YtkdmebcfedehiaaPtAB
import Derived.Test.YtkdmebcfedehiaaPtAC
import Derived.Test.YtkdmebcfedehiaaPtAD
set_option linter.unusedVariables false
/- A region that draws its order, in which one operation that makes memory (told by a letter) may come up anywhere among a chain of calls: whatever the order, one end. -/
namespace Go.Proofs.Ytkdmebcfedehiaa
open Go.RowKit

section
variable {P : Program} {ops : Array Oper} {Q : Exit → Act → World → Prop} {md : Region.Mode} {L : Nat} {X : Type}

/-- from every world of the condition the operation comes to a letter's value, in grown memory of which T tells -/
def YI (P : Program) (ops : Array Oper) (S : World → Prop) (v : X → Value) (T : X → World → Prop) (o : Oper) (a : Act) : Prop :=
  Region.wanted o (yielded ops a.tmps) = true ∧ ∀ w, S w → ∃ x w', (execOp a.eval o).run P w = .ok (.value (v x)) w' ∧ w.grownBy w' none ∧ T x w'
theorem YI.of {S : World → Prop} {v : X → Value} {T : X → World → Prop} {o : Oper} {a a' : Act} (hy : YI P ops S v T o a) (he : execOp a'.eval o = execOp a.eval o)
    (hw : Region.wanted o (yielded ops a'.tmps) = Region.wanted o (yielded ops a.tmps)) : YI P ops S v T o a' := by
  unfold YI at *; rw [he, hw]; exact hy
theorem YI.sub {S S' : World → Prop} {v : X → Value} {T : X → World → Prop} {o : Oper} {a : Act} (hy : YI P ops S v T o a) (h : ∀ w, S' w → S w) : YI P ops S' v T o a :=
  ⟨hy.1, fun w hw => hy.2 w (h w hw)⟩

def wpZ (P : Program) (md : Region.Mode) (ops : Array Oper) (Q : Exit → Act → World → Prop) (L i : Nat) (oi : Oper) (v : X → Value) (T : X → World → Prop) : Nat → (World → Prop) → Array Bool → Act → Prop
  | 0, _, _, _ => False
  | n + 1, S, listed, a =>
    (Region.ready md ops listed = [i] ∧ ∀ x, wpX P md ops Q L (n + 1) (fun u => S u ∧ T x u) (listed.setIfInBounds i true) (a.put oi.dst (v x))) ∨
    (∃ k ok, ops[k]? = some ok ∧ k ≠ i ∧ k ≠ L ∧ oi.apart ops ok = true ∧ (∀ j ∈ Region.ready md ops listed, j = i ∨ j = k) ∧ Region.ready md ops (listed.setIfInBounds i true) = [k] ∧
      ∀ w, S w → wpOp P ops Q k (fun a' w' => w.grownBy w' none ∧ ∃ S' : World → Prop, S' w' ∧ (∀ w, S' w → S w) ∧ Clo S' ∧ wpZ P md ops Q L i oi v T n S' (listed.setIfInBounds k true) a') a w)

/-- the other way round: what comes of an operation when a value that it does not look at has been put -/
theorem wpZ_put {j : Nat} {oi oj : Oper} {u0 : Value} (hj : ops[j]? = some oj) (hap : oi.apart ops oj = true) (hsj : ∀ cs b, oj.op ≠ .select cs b)
    (hQ : ∀ c a w, Q (.panic c) a w → Q (.panic c) (a.put oi.dst u0) w) {K : Act → World → Prop} {a : Act} {w : World}
    (h : wpOp P ops Q j K a w) : wpOp P ops Q j (fun a' w' => ∃ a0, a' = a0.put oi.dst u0 ∧ K a0 w') (a.put oi.dst u0) w := by
  obtain ⟨h1, h2, h3⟩ := Oper.apart_spec hap
  unfold Go.wpOp at h ⊢
  simp only [hj] at h ⊢
  rw [wanted_put oj a oi.dst u0 h1]
  by_cases hw : Region.wanted oj (yielded ops a.tmps) = true
  · rw [if_pos hw] at h ⊢
    rcases h with h | ⟨hasks, hlets⟩
    · refine .inl ?_
      unfold Oper.wp at h ⊢
      rw [execOp_put oj hsj a oi.dst u0 h1]
      generalize (execOp a.eval oj).run P w = r at h ⊢
      cases r with
      | ok n w' =>
        cases n <;> simp only [Oper.upon] at h ⊢
        case value u => exact ⟨_, Act.put_comm a u0 u h2, h⟩
        case skip => exact ⟨_, Act.put_comm a u0 undef h2, h⟩
        case defer d => exact ⟨_, by rw [Act.put_defers, Act.put_comm _ u0 undef h2], h⟩
        case enter f args =>
          refine Calls.mono h fun e w'' he => ?_
          cases e with
          | returned u => exact ⟨_, Act.put_comm a u0 u h2, he⟩
          | panicked c => exact hQ _ _ _ he
          | outgrown => exact he
        case row row args => exact Rows.mono h fun u w'' he => ⟨_, Act.put_comm a u0 u h2, he⟩
      | halt x w' =>
        cases x <;> simp only [Oper.upon] at h ⊢
        case panic u => exact hQ _ _ _ h
    · exact .inr ⟨by unfold Oper.asks at hasks ⊢; rw [execOp_put oj hsj a oi.dst u0 h1]; exact hasks, hlets⟩
  · rw [if_neg hw] at h ⊢
    exact ⟨_, Act.put_comm a u0 undef h2, h⟩
theorem wpZ_after {i : Nat} {oi : Oper} {v : X → Value} {T : X → World → Prop} (hT : ∀ x, Clo (T x)) (hsel : ∀ (j : Nat) (o : Oper) cs b, ops[j]? = some o → o.op ≠ .select cs b)
    (hQ : ∀ c a w u, Q (.panic c) a w → Q (.panic c) (a.put oi.dst u) w) (x : X) : ∀ (n : Nat) (S : World → Prop) (listed : Array Bool) (a : Act), wpZ P md ops Q L i oi v T n S listed a →
      wpX P md ops Q L n (fun u => S u ∧ T x u) (listed.setIfInBounds i true) (a.put oi.dst (v x)) := by
  intro n
  induction n with
  | zero => intro S listed a h; exact h.elim
  | succ n ih =>
    intro S listed a h
    rcases h with ⟨_, h⟩ | ⟨k, ok, hk, hki, hkL, hap, hall, hr, h⟩
    · exact h x
    · refine ⟨by rw [hr]; simp, fun j hj w hS => ?_⟩
      rw [hr] at hj
      obtain rfl : j = k := by simpa using hj
      refine wpOp_mono (fun a' w' h3 => ?_) (wpZ_put (u0 := v x) hk hap (fun cs b => hsel j ok cs b hk) (fun c a w => hQ c a w (v x)) (h w hS.1))
      obtain ⟨a0, rfl, hg, S', hs', hsub, hclo', hz⟩ := h3
      rw [if_neg hkL]
      refine ⟨fun u => S' u ∧ T x u, ⟨hs', hT x _ _ hS.2 hg⟩, fun u hu => ⟨hsub u hu.1, hu.2⟩, fun u u' hu hg => ⟨hclo' _ _ hu.1 hg, hT x _ _ hu.2 hg⟩, ?_⟩
      rw [Array.setIfInBounds_comm _ _ (Ne.symm hki)]
      exact ih S' _ a0 hz
theorem wpZ_run {i : Nat} {oi : Oper} {v : X → Value} {T : X → World → Prop} (hi : ops[i]? = some oi) (hiL : i ≠ L) (hT : ∀ x, Clo (T x)) (hsel : ∀ (j : Nat) (o : Oper) cs b, ops[j]? = some o → o.op ≠ .select cs b)
    (hQ : ∀ c a w u, Q (.panic c) a w → Q (.panic c) (a.put oi.dst u) w) : ∀ (n : Nat) (S : World → Prop) (listed : Array Bool) (a : Act), Clo S → i ∈ Region.ready md ops listed → YI P ops S v T oi a → wpZ P md ops Q L i oi v T n S listed a →
      wpX P md ops Q L (n + 1) S listed a := by
  intro n
  induction n with
  | zero => intro S listed a _ _ _ h; exact h.elim
  | succ n ih =>
    intro S listed a hclo hir hy h
    refine ⟨fun h => (by rw [h] at hir; cases hir), fun j hj w hS => ?_⟩
    have hcase : j = i ∨ ∃ ok, ops[j]? = some ok ∧ j ≠ i ∧ j ≠ L ∧ oi.apart ops ok = true ∧ ∀ w, S w → wpOp P ops Q j (fun a' w' => w.grownBy w' none ∧ ∃ S' : World → Prop, S' w' ∧ (∀ w, S' w → S w) ∧ Clo S' ∧ wpZ P md ops Q L i oi v T n S' (listed.setIfInBounds j true) a') a w := by
      rcases h with ⟨hr, _⟩ | ⟨k, ok, hk, hki, hkL, hap, hall, hr, h⟩
      · rw [hr] at hj
        exact .inl (by simpa using hj)
      · rcases hall j hj with rfl | rfl
        · exact .inl rfl
        · exact .inr ⟨ok, hk, hki, hkL, hap, h⟩
    rcases hcase with rfl | ⟨ok, hk, hki, hkL, hap, hrun⟩
    · unfold wpOp
      simp only [hi, hy.1, if_true]
      refine .inl ?_
      unfold Oper.wp
      obtain ⟨x, w', hrun, hg, ht⟩ := hy.2 w hS
      rw [hrun, Oper.upon_value, if_neg hiL]
      exact ⟨fun u => S u ∧ T x u, ⟨hclo _ _ hS hg, ht⟩, fun u hu => hu.1, fun u u' hu hg => ⟨hclo _ _ hu.1 hg, hT x _ _ hu.2 hg⟩, wpZ_after hT hsel hQ x _ S listed a h⟩
    · have h1 := hrun w hS
      obtain ⟨h1', h2', h3'⟩ := Oper.apart_spec hap
      have keep : ∀ (a : Act) (u : Value), YI P ops S v T oi a → YI P ops S v T oi (a.put ok.dst u) := fun a u hy => hy.of (execOp_put oi (fun cs b => hsel i oi cs b hi) a ok.dst u h3') (wanted_put oi a ok.dst u h3')
      have h2 : wpOp P ops Q j (fun a' w' => YI P ops S v T oi a' ∧ w.grownBy w' none ∧ ∃ S' : World → Prop, S' w' ∧ (∀ w, S' w → S w) ∧ Clo S' ∧ wpZ P md ops Q L i oi v T n S' (listed.setIfInBounds j true) a') a w := by
        unfold Go.wpOp at h1 ⊢
        simp only [hk] at h1 ⊢
        by_cases hw : Region.wanted ok (yielded ops a.tmps) = true
        · rw [if_pos hw] at h1 ⊢
          rcases h1 with h1 | h1
          · refine .inl ?_
            unfold Oper.wp at h1 ⊢
            generalize (execOp a.eval ok).run P w = r at h1 ⊢
            cases r with
            | ok n w' =>
              cases n <;> simp only [Oper.upon] at h1 ⊢
              case value u => exact ⟨keep a u hy, h1⟩
              case skip => exact ⟨keep a _ hy, h1⟩
              case defer d => exact ⟨(keep { a with defers := d :: a.defers } undef (hy.of rfl rfl)), h1⟩
              case enter f args =>
                refine Calls.mono h1 fun e w'' he => ?_
                cases e with
                | returned u => exact ⟨keep a u hy, he⟩
                | panicked c => exact he
                | outgrown => exact he
              case row row args => exact Rows.mono h1 fun u w'' he => ⟨keep a u hy, he⟩
            | halt x w' =>
              cases x <;> simp only [Oper.upon] at h1 ⊢
              case panic u => exact h1
          · exact .inr h1
        · rw [if_neg hw] at h1 ⊢
          exact ⟨keep a _ hy, h1⟩
      refine wpOp_mono (fun a' w' h3 => ?_) h2
      rw [if_neg hkL]
      obtain ⟨hya, hg, S', hs', hsub, hclo', hz⟩ := h3
      exact ⟨S', hs', hsub, hclo', ih S' _ a' hclo' (ready_mono hir (Ne.symm hki)) (hya.sub hsub) hz⟩

/-- number i, of which a letter is told, may come up anywhere from here on -/
theorem wpX_float (i : Nat) {oi : Oper} {v : X → Value} {T : X → World → Prop} {S : World → Prop} {n : Nat} {listed : Array Bool} {a : Act} (hclo : Clo S) (hi : ops[i]? = some oi) (hiL : (i == L) = false) (hs : Region.noSelect ops = true) (hr : (Region.ready md ops listed).contains i = true)
    (hQ : ∀ c a w, ¬ Q (.panic c) a w) (hT : ∀ x, Clo (T x)) (hy : YI P ops S v T oi a) (h : wpZ P md ops Q L i oi v T n S listed a) : wpX P md ops Q L (n + 1) S listed a :=
  wpZ_run hi (by simpa using hiL) hT (Region.noSelect_spec hs) (fun c a w u h => absurd h (hQ c a w)) n S listed a hclo (by simpa using hr) hy h
/-- one of the chain is carried out -/
theorem wpZ_step {i : Nat} {oi : Oper} {v : X → Value} {T : X → World → Prop} (k : Nat) {S : World → Prop} {o : Oper} {n : Nat} {listed : Array Bool} {a : Act} (ho : ops[k]? = some o) (hki : (k == i) = false) (hkL : (k == L) = false) (hap : oi.apart ops o = true)
    (hall : ((Region.ready md ops listed).all fun j => j == i || j == k) = true) (hr : Region.ready md ops (listed.setIfInBounds i true) = [k]) (hw : Region.wanted o (yielded ops a.tmps) = true)
    (h : ∀ w, S w → ∀ K : Act → World → Prop, (∀ (S' : World → Prop) a' w', w.grownBy w' none → S' w' → (∀ w, S' w → S w) → Clo S' → wpZ P md ops Q L i oi v T n S' (listed.setIfInBounds k true) a' → K a' w') → o.wp P a w K Q) : wpZ P md ops Q L i oi v T (n + 1) S listed a := by
  refine .inr ⟨k, o, ho, by simpa using hki, by simpa using hkL, hap, fun j hj => ?_, hr, fun w hS => ?_⟩
  · have := List.all_eq_true.1 hall j hj
    simpa using this
  · unfold wpOp
    simp only [ho, hw, if_true]
    exact .inl (h w hS _ fun S' a' w' h0 h1 h2 h3 h4 => ⟨h0, S', h1, h2, h3, h4⟩)
/-- none but number i is left to come up: its letter is told -/
theorem wpZ_end {i : Nat} {oi : Oper} {v : X → Value} {T : X → World → Prop} {S : World → Prop} {n : Nat} {listed : Array Bool} {a : Act} (hr : Region.ready md ops listed = [i])
    (h : ∀ x, wpX P md ops Q L (n + 1) (fun u => S u ∧ T x u) (listed.setIfInBounds i true) (a.put oi.dst (v x))) : wpZ P md ops Q L i oi v T (n + 1) S listed a := .inl ⟨hr, h⟩
end
end Go.Proofs.Ytkdmebcfedehiaa
/- wire.PutRequest: of every request. Printed by gens/wirereq.py. -/
namespace Go.Proofs.Ytkdmebcfedehiaa
open Go.RowKit
def oLWireReqP0 : Oper := { dst := some 4, op := Op.assign (Operand.tmp 14), type := 24, pos := "wire.go:59", after := #[{ on := 6, ground := Ground.data }, { on := 6, ground := Ground.chain }, { on := 0, ground := Ground.phase }, { on := 1, ground := Ground.phase }, { on := 2, ground := Ground.phase }, { on := 3, ground := Ground.phase }, { on := 4, ground := Ground.phase }, { on := 5, ground := Ground.phase }, { on := 6, ground := Ground.phase }], guard := none }
def oLWireReqP1 : Oper := { dst := some 4, op := Op.assign (Operand.tmp 72), type := 24, pos := "wire.go:66", after := #[{ on := 11, ground := Ground.data }, { on := 11, ground := Ground.chain }, { on := 0, ground := Ground.phase }, { on := 1, ground := Ground.phase }, { on := 2, ground := Ground.phase }, { on := 3, ground := Ground.phase }, { on := 4, ground := Ground.phase }, { on := 5, ground := Ground.phase }, { on := 6, ground := Ground.phase }, { on := 7, ground := Ground.phase }, { on := 8, ground := Ground.phase }, { on := 9, ground := Ground.phase }, { on := 10, ground := Ground.phase }, { on := 11, ground := Ground.phase }], guard := none }
def oLWireReqP2 : Oper := { dst := some 4, op := Op.assign (Operand.tmp 58), type := 24, pos := "wire.go:64", after := #[{ on := 14, ground := Ground.data }, { on := 14, ground := Ground.chain }, { on := 0, ground := Ground.phase }, { on := 1, ground := Ground.phase }, { on := 2, ground := Ground.phase }, { on := 3, ground := Ground.phase }, { on := 4, ground := Ground.phase }, { on := 5, ground := Ground.phase }, { on := 6, ground := Ground.phase }, { on := 7, ground := Ground.phase }, { on := 8, ground := Ground.phase }, { on := 9, ground := Ground.phase }, { on := 10, ground := Ground.phase }, { on := 11, ground := Ground.phase }, { on := 12, ground := Ground.phase }, { on := 13, ground := Ground.phase }, { on := 14, ground := Ground.phase }], guard := none }
def oLWireReqP3 : Oper := { dst := some 4, op := Op.assign (Operand.tmp 41), type := 24, pos := "wire.go:62", after := #[{ on := 22, ground := Ground.data }, { on := 22, ground := Ground.chain }, { on := 0, ground := Ground.phase }, { on := 1, ground := Ground.phase }, { on := 2, ground := Ground.phase }, { on := 3, ground := Ground.phase }, { on := 4, ground := Ground.phase }, { on := 5, ground := Ground.phase }, { on := 6, ground := Ground.phase }, { on := 7, ground := Ground.phase }, { on := 8, ground := Ground.phase }, { on := 9, ground := Ground.phase }, { on := 10, ground := Ground.phase }, { on := 11, ground := Ground.phase }, { on := 12, ground := Ground.phase }, { on := 13, ground := Ground.phase }, { on := 14, ground := Ground.phase }, { on := 15, ground := Ground.phase }, { on := 16, ground := Ground.phase }, { on := 17, ground := Ground.phase }, { on := 18, ground := Ground.phase }, { on := 19, ground := Ground.phase }, { on := 20, ground := Ground.phase }, { on := 21, ground := Ground.phase }, { on := 22, ground := Ground.phase }], guard := none }

def putQL (q : Rq) : List UInt8 := if MayQ q then encQ q else []
def putQE (q : Rq) : Int := if MayQ q then 0 else 200
theorem big64_e (x : Nat) (hx : x < 18446744073709551616) (w : World) : Calls Try.prog 33 #[.int .u64 x] w fun e w' => ∃ g, e = .returned (.slice (some ⟨g, 0, none⟩) 8 8) ∧ BOwn w' w.heap.size (some ⟨g, 0, none⟩) 8 8 (bigL 8 x) ∧ w.grownBy w' none :=
  (big64_any x hx w).mono fun e w' ⟨h1, h2⟩ => ⟨_, h1, by rw [h2]; exact own_new w _ 8 (bigL_length 8 x) (by decide), by rw [h2]; exact World.grownBy_alloc _ _ _⟩
theorem rq_blies {w : World} {g : Nat} {q : Rq} {s : Value} (h : Row w g 43 (rqC q s)) (hx : q.ix.length = 16) : BLies w (some ⟨g, 1, none⟩) q.ix := by
  intro k hk
  refine ⟨g, 1, rfl, ?_⟩
  rw [Row.cell h]
  unfold rqC
  simp only [List.getElem?_toArray]
  rw [Nat.add_comm, List.getElem?_cons_succ, List.getElem?_append_left (by simpa using hk)]
  rw [List.getElem?_map, List.getElem?_eq_getElem hk]
  rfl
set_option maxRecDepth 100000 in
set_option maxHeartbeats 4000000 in
theorem putReq_no (q : Rq) (a : Option Addr) (n c : Nat) (w : World) (hx : q.ix.length = 16) (hk : q.kind < 256) (hbs : BLies w a q.bytes) (hn : q.bytes.length = n) (hok : LeaseOk q.who q.till) (hnm : n ≤ maxLen) (hmay : ¬ MayQ q) :
    Calls Try.prog 15 #[.agg (rqC q (.slice a n c))] w fun e w' => ∃ a' n' c', e = .returned (.tuple #[.slice a' n' c', .int .i64 (putQE q)]) ∧ BOwn w' w.heap.size a' n' c' (putQL q) ∧ w.grownBy w' none := by
  have hL : putQL q = [] := if_neg hmay
  have hE : putQE q = 200 := if_neg hmay
  rw [hL, hE]
  have hd : decide (MayQ q) = false := decide_eq_false hmay
  have hma := fun W => mayAsk_n q a n c W hx hn hok hnm
  rw [hd] at hma
  have HMA := Lib.hid hma
  have HBS := Lib.hid hbs
  have HN := Lib.hid hn
  have HX := Lib.hid hx
  have HMAY := Lib.hid hmay
  clear hL hE hd hma hbs hn hx hmay hnm
  go_enter Try.func15, Try.ntmps15
  go_wp2_with (first
    | (refine wpList_boxed rfl rfl (rqC q (.slice a n c)) rfl ?_; intro wb hs g hr; have HG := Lib.hid g; have HB := Lib.hid (show Row wb w.heap.size 43 (rqC q (.slice a n c)) from hr); clear hs g hr)
    | (refine wpList_load_row rfl 43 _ rfl w.heap.size rfl 43 (rqC q (.slice a n c)) (0, 0) _ HB.out Try.underlying43 rfl (by rw [size_req]; exact congrArg some (rq_len q _ HX.out).symm) ?_))
  refine (HMA.out wb).mono ?_
  rintro e w1 ⟨rfl, g⟩
  have HG1 := Lib.hid (grownBy_trans HG.out g)
  have R1 := Lib.hid (HB.out.grown g)
  clear g HB HG
  go_wp2_with fail
  go_ret2
  exact ⟨_, _, _, rfl, Own.nil _ _ _ _ _, HG1.out⟩
set_option maxRecDepth 100000 in
set_option maxHeartbeats 4000000 in
theorem putReq_1 (q : Rq) (a : Option Addr) (n c : Nat) (w : World) (hx : q.ix.length = 16) (hk : q.kind < 256) (hbs : BLies w a q.bytes) (hn : q.bytes.length = n) (hok : LeaseOk q.who q.till) (hnm : n ≤ maxLen) (hmay : MayQ q) (hkk : q.kind = 1) :
    Calls Try.prog 15 #[.agg (rqC q (.slice a n c))] w fun e w' => ∃ a' n' c', e = .returned (.tuple #[.slice a' n' c', .int .i64 (putQE q)]) ∧ BOwn w' w.heap.size a' n' c' (putQL q) ∧ w.grownBy w' none := by
  have hL : putQL q = encQ q := if_pos hmay
  have hE : putQE q = 0 := if_pos hmay
  rw [hL, hE]
  have hd : decide (MayQ q) = true := decide_eq_true hmay
  have hma := fun W => mayAsk_n q a n c W hx hn hok hnm
  rw [hd] at hma
  have HMA := Lib.hid hma
  have HBS := Lib.hid hbs
  have HN := Lib.hid hn
  have HX := Lib.hid hx
  have HMAY := Lib.hid hmay
  clear hL hE hd hma hbs hn hx hmay hnm
  go_enter Try.func15, Try.ntmps15
  go_wp2_with (first
    | (refine wpList_boxed rfl rfl (rqC q (.slice a n c)) rfl ?_; intro wb hs g hr; have HG := Lib.hid g; have HB := Lib.hid (show Row wb w.heap.size 43 (rqC q (.slice a n c)) from hr); clear hs g hr)
    | (refine wpList_load_row rfl 43 _ rfl w.heap.size rfl 43 (rqC q (.slice a n c)) (0, 0) _ HB.out Try.underlying43 rfl (by rw [size_req]; exact congrArg some (rq_len q _ HX.out).symm) ?_))
  refine (HMA.out wb).mono ?_
  rintro e w1 ⟨rfl, g⟩
  have HG1 := Lib.hid (grownBy_trans HG.out g)
  have R1 := Lib.hid (HB.out.grown g)
  clear g HB HG
  obtain ⟨bx, hbx⟩ : ∃ bx, bx = w.heap.size := ⟨_, rfl⟩
  rw [← hbx] at R1 ⊢
  have HBX := Lib.hid hbx
  obtain ⟨KK, hK⟩ : ∃ KK : Int, (q.kind : Int) = KK := ⟨_, rfl⟩
  have HKq := Lib.hid hK
  have HBV := Lib.hid (show bval (UInt8.ofNat q.kind) = .int .u8 KK from by rw [bval_nat _ hk, hK])
  have HOK := Lib.hid hok
  clear hbx hok hk
  go_upto_region 3 with fail
  refine wp_normal ?_
  refine wp_regionX (fun u => w1.grownBy u none) 7 (by kernel_rfl) (grownBy_drewN w1 1 none) ?_
  refine wpX_take 0 (v := .pointer (some ⟨bx, 0, none⟩)) (oi := { dst := some 8, op := Op.fieldAddr 43 (Operand.tmp 1) 0, type := 0, pos := "wire.go:59", after := #[], guard := none }) (oL := oLWireReqP0) (clo_grown _) rfl rfl rfl (by kernel_rfl) (by kernel_rfl) (by kernel_rfl) (by kernel_rfl) (by kernel_rfl) (fun _ _ _ h => by cases h.1) (YG.val (by rfl) (fun _ _ => by go_simp)) ?_
  simp only [Act.put, List.setIfInBounds_toArray, List.set_cons_zero, List.set_cons_succ]
  refine wpX_take 1 (v := .int .u8 KK) (oi := { dst := some 9, op := Op.load 36 (Operand.tmp 8), type := 36, pos := "wire.go:59", after := #[{ on := 0, ground := Ground.data }], guard := none }) (oL := oLWireReqP0) (clo_grown _) rfl rfl rfl (by kernel_rfl) (by kernel_rfl) (by kernel_rfl) (by kernel_rfl) (by kernel_rfl) (fun _ _ _ h => by cases h.1) (YG.val (by rfl) (fun u hu => by have c := rq_kind (R1.out.grown hu); rw [HKq.out] at c; go_simp)) ?_
  simp only [Act.put, List.setIfInBounds_toArray, List.set_cons_zero, List.set_cons_succ]
  refine wpX_take 3 (v := .pointer (some ⟨bx, 1, none⟩)) (oi := { dst := some 11, op := Op.fieldAddr 43 (Operand.tmp 1) 1, type := 0, pos := "wire.go:59", after := #[], guard := none }) (oL := oLWireReqP0) (clo_grown _) rfl rfl rfl (by kernel_rfl) (by kernel_rfl) (by kernel_rfl) (by kernel_rfl) (by kernel_rfl) (fun _ _ _ h => by cases h.1) (YG.val (by rfl) (fun _ _ => by go_simp)) ?_
  simp only [Act.put, List.setIfInBounds_toArray, List.set_cons_zero, List.set_cons_succ]
  refine wpX_take 4 (v := .slice (some ⟨bx, 1, none⟩) 16 16) (oi := { dst := some 12, op := Op.slice 38 (Operand.tmp 11) none none none, type := 24, pos := "wire.go:59", after := #[{ on := 3, ground := Ground.data }], guard := none }) (oL := oLWireReqP0) (clo_grown _) rfl rfl rfl (by kernel_rfl) (by kernel_rfl) (by kernel_rfl) (by kernel_rfl) (by kernel_rfl) (fun _ _ _ h => by cases h.1) (YG.val (by rfl) (fun _ _ => by go_simp)) ?_
  simp only [Act.put, List.setIfInBounds_toArray, List.set_cons_zero, List.set_cons_succ]
  refine wpX_step 2 (o := { dst := some 10, op := Op.buildSlice 24 1 #[(0, Operand.tmp 9)], type := 24, pos := "wire.go:59", after := #[{ on := 1, ground := Ground.data }], guard := none }) rfl rfl (by kernel_rfl) (by rfl) (fun u2 hS2 K hK => ?_)
  have HK := Lib.hid hK
  have HS := Lib.hid hS2
  clear hK hS2
  refine wp_val_op (v := .slice (some ⟨u2.heap.size, 0, none⟩) 1 1) (w1 := u2.alloc (.cells #[.int .u8 KK] 5)) (by go_simp) ?_
  obtain ⟨w3, hW⟩ : ∃ w3, w3 = u2.alloc (.cells #[.int .u8 KK] 5) := ⟨_, rfl⟩
  have g : u2.grownBy w3 none := hW ▸ World.grownBy_alloc _ _ _
  have hr : Row w3 u2.heap.size 5 #[.int .u8 KK] := hW ▸ heap_alloc_new u2 _
  rw [← hW]
  obtain ⟨bk, hb⟩ : ∃ bk, bk = u2.heap.size := ⟨_, rfl⟩
  rw [← hb] at hr ⊢
  have Gw3 := Lib.hid (grownBy_trans HS.out g)
  have Zw3 := Lib.hid HS.out.size
  have RK := Lib.hid hr
  clear hr hb hW
  refine HK.out (fun u => w3.grownBy u none) _ _ (World.grownBy.refl _ _) (fun u h => grownBy_trans Gw3.out h) (clo_grown w3) ?_
  clear HK HS g
  simp only [Act.put, List.setIfInBounds_toArray, List.set_cons_zero, List.set_cons_succ]
  refine wpX_step 5 (o := { dst := some 13, op := Op.buildSlice 52 2 #[(0, Operand.tmp 10), (1, Operand.tmp 12)], type := 52, pos := "wire.go:59", after := #[{ on := 2, ground := Ground.data }, { on := 4, ground := Ground.data }], guard := none }) rfl rfl (by kernel_rfl) (by rfl) (fun u2 hS2 K hK => ?_)
  have HK := Lib.hid hK
  have HS := Lib.hid hS2
  clear hK hS2
  refine wp_val_op (v := .slice (some ⟨u2.heap.size, 0, none⟩) 2 2) (w1 := u2.alloc (.cells #[.slice (some ⟨bk, 0, none⟩) 1 1, .slice (some ⟨bx, 1, none⟩) 16 16] 24)) (by go_simp) ?_
  obtain ⟨w4, hW⟩ : ∃ w4, w4 = u2.alloc (.cells #[.slice (some ⟨bk, 0, none⟩) 1 1, .slice (some ⟨bx, 1, none⟩) 16 16] 24) := ⟨_, rfl⟩
  have g : u2.grownBy w4 none := hW ▸ World.grownBy_alloc _ _ _
  have hr : Row w4 u2.heap.size 24 #[.slice (some ⟨bk, 0, none⟩) 1 1, .slice (some ⟨bx, 1, none⟩) 16 16] := hW ▸ heap_alloc_new u2 _
  rw [← hW]
  obtain ⟨bl, hb⟩ : ∃ bl, bl = u2.heap.size := ⟨_, rfl⟩
  rw [← hb] at hr ⊢
  have Gw4 := Lib.hid (grownBy_trans HS.out g)
  have Zw4 := Lib.hid HS.out.size
  have RL := Lib.hid hr
  replace RK := Lib.hid (RK.out.grown (grownBy_trans HS.out g))
  clear hr hb hW
  refine HK.out (fun u => w4.grownBy u none) _ _ (World.grownBy.refl _ _) (fun u h => grownBy_trans Gw4.out h) (clo_grown w4) ?_
  clear HK HS g
  simp only [Act.put, List.setIfInBounds_toArray, List.set_cons_zero, List.set_cons_succ]
  have hj : ∀ u, w4.grownBy u none → Calls Try.prog 23 #[.slice (some ⟨bl, 0, none⟩) 2 2] u fun e w' => ∃ a' m' c', e = .returned (.slice a' m' c') ∧ BOwn w' u.heap.size a' m' c' (UInt8.ofNat q.kind :: q.ix) ∧ u.grownBy w' none := fun u hu => by
    have hl : LLies u (some ⟨bl, 0, none⟩) [⟨some ⟨bk, 0, none⟩, 1, 1⟩, ⟨some ⟨bx, 1, none⟩, 16, 16⟩] [[UInt8.ofNat q.kind], q.ix] := by
      refine row_llies (RL.out.grown hu) rfl (fun i h h' => ?_)
      match i, h, h' with
      | 0, _, _ =>
        refine ⟨BRow.lies (t := 5) ?_, rfl⟩
        have e : rowB [UInt8.ofNat q.kind] = #[.int .u8 KK] := by unfold rowB; rw [List.map_singleton, HBV.out]
        show Row _ _ _ (rowB [UInt8.ofNat q.kind])
        rw [e]
        exact RK.out.grown hu
      | 1, _, _ => exact ⟨rq_blies (R1.out.grown (grownBy_trans (grownBy_trans Gw3.out Gw4.out) hu)) HX.out, HX.out.symm⟩
    have h := joinB_n (some ⟨bl, 0, none⟩) 2 2 _ _ u hl rfl (by simp [HX.out]) (by omega)
    have e : ([[UInt8.ofNat q.kind], q.ix] : List (List UInt8)).flatten = UInt8.ofNat q.kind :: q.ix := by simp
    rw [e] at h
    exact h
  have HJ := Lib.hid hj
  clear hj
  refine wpX_step 6 (o := { dst := some 14, op := Op.call { callee := Callee.value (Operand.func 23), args := #[Operand.tmp 13], argTypes := #[52] }, type := 24, pos := "wire.go:59", after := #[{ on := 5, ground := Ground.data }], guard := none }) rfl rfl (by kernel_rfl) (by rfl) (fun u2 hS2 K hK => ?_)
  have HK := Lib.hid hK
  have HS := Lib.hid hS2
  clear hK hS2
  refine wp_call_op (f := 23) (args := #[.slice (some ⟨bl, 0, none⟩) 2 2]) (w1 := u2) (by go_simp) ((HJ.out u2 HS.out).mono ?_)
  rintro e w5 ⟨aj, mj, cj, rfl, ho, g⟩
  have Gw5 := Lib.hid (grownBy_trans HS.out g)
  have Zw5 := Lib.hid HS.out.size
  have OJ := Lib.hid ho
  have Z5 := Lib.hid (show w.heap.size ≤ u2.heap.size from Nat.le_trans HG1.out.size (Nat.le_trans (grownBy_trans Gw3.out Gw4.out).size HS.out.size))
  clear ho
  refine ⟨_, rfl, HK.out (fun u => w5.grownBy u none) _ _ (World.grownBy.refl _ _) (fun u h => grownBy_trans Gw5.out h) (clo_grown w5) ?_⟩
  clear HK HS g
  simp only [Act.put, List.setIfInBounds_toArray, List.set_cons_zero, List.set_cons_succ]
  refine wpX_last (oL := { dst := some 4, op := Op.assign (Operand.tmp 14), type := 24, pos := "wire.go:59", after := #[{ on := 6, ground := Ground.data }, { on := 6, ground := Ground.chain }, { on := 0, ground := Ground.phase }, { on := 1, ground := Ground.phase }, { on := 2, ground := Ground.phase }, { on := 3, ground := Ground.phase }, { on := 4, ground := Ground.phase }, { on := 5, ground := Ground.phase }, { on := 6, ground := Ground.phase }], guard := none }) rfl (by kernel_rfl) (by kernel_rfl) (by rfl) (fun u4 hS4 K4 hK4 => ?_)
  refine wp_val_op (v := .slice aj mj cj) (w1 := u4) (by rfl) (hK4 _ _ ?_)
  simp only [Act.put, List.setIfInBounds_toArray, List.set_cons_zero, List.set_cons_succ]
  refine ⟨by first | rfl | trivial, ?_⟩
  obtain ⟨w6, h6⟩ : ∃ w6, w6 = u4 := ⟨_, rfl⟩
  rw [← h6] at hS4 ⊢
  have HO6 := Lib.hid (BOwn.mono (BOwn.grown OJ.out hS4) Z5.out)
  have g16 : w1.grownBy w6 none := grownBy_trans (grownBy_trans (grownBy_trans Gw3.out Gw4.out) Gw5.out) hS4
  have HG6 := Lib.hid (grownBy_trans HG1.out g16)
  have R6 := Lib.hid (R1.out.grown g16)
  have hmj : mj = 17 := by have h := OJ.out.len; simp [HX.out] at h; omega
  have HM := Lib.hid hmj
  clear h6 hS4 hK4 g16 OJ Z5 Gw3 Gw4 Gw5 Zw3 Zw4 Zw5 RK RL HJ R1 HMA hmj
  have k6 : w6.cell? ⟨bx, 0, none⟩ = some (.int .u8 KK) := by have c := rq_kind R6.out; rw [HKq.out] at c; exact c
  have b2 : (KK == 2) = false := by rw [beq_eq_false_iff_ne]; omega
  have b3 : (KK == 3) = false := by rw [beq_eq_false_iff_ne]; omega
  have b4 : (KK == 4) = false := by rw [beq_eq_false_iff_ne]; omega
  have b5 : (KK == 5) = false := by rw [beq_eq_false_iff_ne]; omega
  have HHK := Lib.hid hkk
  clear hkk hK
  go_wp2_with fail
  go_ret2
  refine ⟨_, _, _, rfl, ?_, HG6.out⟩
  rw [show encQ q = UInt8.ofNat q.kind :: q.ix from by have h1 := HHK.out; unfold encQ; simp [h1]]
  exact HO6.out
set_option maxRecDepth 100000 in
set_option maxHeartbeats 4000000 in
theorem putReq_5 (q : Rq) (a : Option Addr) (n c : Nat) (w : World) (hx : q.ix.length = 16) (hk : q.kind < 256) (hbs : BLies w a q.bytes) (hn : q.bytes.length = n) (hok : LeaseOk q.who q.till) (hnm : n ≤ maxLen) (hmay : MayQ q) (hkk : q.kind = 5) :
    Calls Try.prog 15 #[.agg (rqC q (.slice a n c))] w fun e w' => ∃ a' n' c', e = .returned (.tuple #[.slice a' n' c', .int .i64 (putQE q)]) ∧ BOwn w' w.heap.size a' n' c' (putQL q) ∧ w.grownBy w' none := by
  have hL : putQL q = encQ q := if_pos hmay
  have hE : putQE q = 0 := if_pos hmay
  rw [hL, hE]
  have hd : decide (MayQ q) = true := decide_eq_true hmay
  have hma := fun W => mayAsk_n q a n c W hx hn hok hnm
  rw [hd] at hma
  have HMA := Lib.hid hma
  have HBS := Lib.hid hbs
  have HN := Lib.hid hn
  have HX := Lib.hid hx
  have HMAY := Lib.hid hmay
  clear hL hE hd hma hbs hn hx hmay hnm
  go_enter Try.func15, Try.ntmps15
  go_wp2_with (first
    | (refine wpList_boxed rfl rfl (rqC q (.slice a n c)) rfl ?_; intro wb hs g hr; have HG := Lib.hid g; have HB := Lib.hid (show Row wb w.heap.size 43 (rqC q (.slice a n c)) from hr); clear hs g hr)
    | (refine wpList_load_row rfl 43 _ rfl w.heap.size rfl 43 (rqC q (.slice a n c)) (0, 0) _ HB.out Try.underlying43 rfl (by rw [size_req]; exact congrArg some (rq_len q _ HX.out).symm) ?_))
  refine (HMA.out wb).mono ?_
  rintro e w1 ⟨rfl, g⟩
  have HG1 := Lib.hid (grownBy_trans HG.out g)
  have R1 := Lib.hid (HB.out.grown g)
  clear g HB HG
  obtain ⟨bx, hbx⟩ : ∃ bx, bx = w.heap.size := ⟨_, rfl⟩
  rw [← hbx] at R1 ⊢
  have HBX := Lib.hid hbx
  obtain ⟨KK, hK⟩ : ∃ KK : Int, (q.kind : Int) = KK := ⟨_, rfl⟩
  have HKq := Lib.hid hK
  have HBV := Lib.hid (show bval (UInt8.ofNat q.kind) = .int .u8 KK from by rw [bval_nat _ hk, hK])
  have HOK := Lib.hid hok
  clear hbx hok hk
  go_upto_region 3 with fail
  refine wp_normal ?_
  refine wp_regionX (fun u => w1.grownBy u none) 7 (by kernel_rfl) (grownBy_drewN w1 1 none) ?_
  refine wpX_take 0 (v := .pointer (some ⟨bx, 0, none⟩)) (oi := { dst := some 8, op := Op.fieldAddr 43 (Operand.tmp 1) 0, type := 0, pos := "wire.go:59", after := #[], guard := none }) (oL := oLWireReqP0) (clo_grown _) rfl rfl rfl (by kernel_rfl) (by kernel_rfl) (by kernel_rfl) (by kernel_rfl) (by kernel_rfl) (fun _ _ _ h => by cases h.1) (YG.val (by rfl) (fun _ _ => by go_simp)) ?_
  simp only [Act.put, List.setIfInBounds_toArray, List.set_cons_zero, List.set_cons_succ]
  refine wpX_take 1 (v := .int .u8 KK) (oi := { dst := some 9, op := Op.load 36 (Operand.tmp 8), type := 36, pos := "wire.go:59", after := #[{ on := 0, ground := Ground.data }], guard := none }) (oL := oLWireReqP0) (clo_grown _) rfl rfl rfl (by kernel_rfl) (by kernel_rfl) (by kernel_rfl) (by kernel_rfl) (by kernel_rfl) (fun _ _ _ h => by cases h.1) (YG.val (by rfl) (fun u hu => by have c := rq_kind (R1.out.grown hu); rw [HKq.out] at c; go_simp)) ?_
  simp only [Act.put, List.setIfInBounds_toArray, List.set_cons_zero, List.set_cons_succ]
  refine wpX_take 3 (v := .pointer (some ⟨bx, 1, none⟩)) (oi := { dst := some 11, op := Op.fieldAddr 43 (Operand.tmp 1) 1, type := 0, pos := "wire.go:59", after := #[], guard := none }) (oL := oLWireReqP0) (clo_grown _) rfl rfl rfl (by kernel_rfl) (by kernel_rfl) (by kernel_rfl) (by kernel_rfl) (by kernel_rfl) (fun _ _ _ h => by cases h.1) (YG.val (by rfl) (fun _ _ => by go_simp)) ?_
  simp only [Act.put, List.setIfInBounds_toArray, List.set_cons_zero, List.set_cons_succ]
  refine wpX_take 4 (v := .slice (some ⟨bx, 1, none⟩) 16 16) (oi := { dst := some 12, op := Op.slice 38 (Operand.tmp 11) none none none, type := 24, pos := "wire.go:59", after := #[{ on := 3, ground := Ground.data }], guard := none }) (oL := oLWireReqP0) (clo_grown _) rfl rfl rfl (by kernel_rfl) (by kernel_rfl) (by kernel_rfl) (by kernel_rfl) (by kernel_rfl) (fun _ _ _ h => by cases h.1) (YG.val (by rfl) (fun _ _ => by go_simp)) ?_
  simp only [Act.put, List.setIfInBounds_toArray, List.set_cons_zero, List.set_cons_succ]
  refine wpX_step 2 (o := { dst := some 10, op := Op.buildSlice 24 1 #[(0, Operand.tmp 9)], type := 24, pos := "wire.go:59", after := #[{ on := 1, ground := Ground.data }], guard := none }) rfl rfl (by kernel_rfl) (by rfl) (fun u2 hS2 K hK => ?_)
  have HK := Lib.hid hK
  have HS := Lib.hid hS2
  clear hK hS2
  refine wp_val_op (v := .slice (some ⟨u2.heap.size, 0, none⟩) 1 1) (w1 := u2.alloc (.cells #[.int .u8 KK] 5)) (by go_simp) ?_
  obtain ⟨w3, hW⟩ : ∃ w3, w3 = u2.alloc (.cells #[.int .u8 KK] 5) := ⟨_, rfl⟩
  have g : u2.grownBy w3 none := hW ▸ World.grownBy_alloc _ _ _
  have hr : Row w3 u2.heap.size 5 #[.int .u8 KK] := hW ▸ heap_alloc_new u2 _
  rw [← hW]
  obtain ⟨bk, hb⟩ : ∃ bk, bk = u2.heap.size := ⟨_, rfl⟩
  rw [← hb] at hr ⊢
  have Gw3 := Lib.hid (grownBy_trans HS.out g)
  have Zw3 := Lib.hid HS.out.size
  have RK := Lib.hid hr
  clear hr hb hW
  refine HK.out (fun u => w3.grownBy u none) _ _ (World.grownBy.refl _ _) (fun u h => grownBy_trans Gw3.out h) (clo_grown w3) ?_
  clear HK HS g
  simp only [Act.put, List.setIfInBounds_toArray, List.set_cons_zero, List.set_cons_succ]
  refine wpX_step 5 (o := { dst := some 13, op := Op.buildSlice 52 2 #[(0, Operand.tmp 10), (1, Operand.tmp 12)], type := 52, pos := "wire.go:59", after := #[{ on := 2, ground := Ground.data }, { on := 4, ground := Ground.data }], guard := none }) rfl rfl (by kernel_rfl) (by rfl) (fun u2 hS2 K hK => ?_)
  have HK := Lib.hid hK
  have HS := Lib.hid hS2
  clear hK hS2
  refine wp_val_op (v := .slice (some ⟨u2.heap.size, 0, none⟩) 2 2) (w1 := u2.alloc (.cells #[.slice (some ⟨bk, 0, none⟩) 1 1, .slice (some ⟨bx, 1, none⟩) 16 16] 24)) (by go_simp) ?_
  obtain ⟨w4, hW⟩ : ∃ w4, w4 = u2.alloc (.cells #[.slice (some ⟨bk, 0, none⟩) 1 1, .slice (some ⟨bx, 1, none⟩) 16 16] 24) := ⟨_, rfl⟩
  have g : u2.grownBy w4 none := hW ▸ World.grownBy_alloc _ _ _
  have hr : Row w4 u2.heap.size 24 #[.slice (some ⟨bk, 0, none⟩) 1 1, .slice (some ⟨bx, 1, none⟩) 16 16] := hW ▸ heap_alloc_new u2 _
  rw [← hW]
  obtain ⟨bl, hb⟩ : ∃ bl, bl = u2.heap.size := ⟨_, rfl⟩
  rw [← hb] at hr ⊢
  have Gw4 := Lib.hid (grownBy_trans HS.out g)
  have Zw4 := Lib.hid HS.out.size
  have RL := Lib.hid hr
  replace RK := Lib.hid (RK.out.grown (grownBy_trans HS.out g))
  clear hr hb hW
  refine HK.out (fun u => w4.grownBy u none) _ _ (World.grownBy.refl _ _) (fun u h => grownBy_trans Gw4.out h) (clo_grown w4) ?_
  clear HK HS g
  simp only [Act.put, List.setIfInBounds_toArray, List.set_cons_zero, List.set_cons_succ]
  have hj : ∀ u, w4.grownBy u none → Calls Try.prog 23 #[.slice (some ⟨bl, 0, none⟩) 2 2] u fun e w' => ∃ a' m' c', e = .returned (.slice a' m' c') ∧ BOwn w' u.heap.size a' m' c' (UInt8.ofNat q.kind :: q.ix) ∧ u.grownBy w' none := fun u hu => by
    have hl : LLies u (some ⟨bl, 0, none⟩) [⟨some ⟨bk, 0, none⟩, 1, 1⟩, ⟨some ⟨bx, 1, none⟩, 16, 16⟩] [[UInt8.ofNat q.kind], q.ix] := by
      refine row_llies (RL.out.grown hu) rfl (fun i h h' => ?_)
      match i, h, h' with
      | 0, _, _ =>
        refine ⟨BRow.lies (t := 5) ?_, rfl⟩
        have e : rowB [UInt8.ofNat q.kind] = #[.int .u8 KK] := by unfold rowB; rw [List.map_singleton, HBV.out]
        show Row _ _ _ (rowB [UInt8.ofNat q.kind])
        rw [e]
        exact RK.out.grown hu
      | 1, _, _ => exact ⟨rq_blies (R1.out.grown (grownBy_trans (grownBy_trans Gw3.out Gw4.out) hu)) HX.out, HX.out.symm⟩
    have h := joinB_n (some ⟨bl, 0, none⟩) 2 2 _ _ u hl rfl (by simp [HX.out]) (by omega)
    have e : ([[UInt8.ofNat q.kind], q.ix] : List (List UInt8)).flatten = UInt8.ofNat q.kind :: q.ix := by simp
    rw [e] at h
    exact h
  have HJ := Lib.hid hj
  clear hj
  refine wpX_step 6 (o := { dst := some 14, op := Op.call { callee := Callee.value (Operand.func 23), args := #[Operand.tmp 13], argTypes := #[52] }, type := 24, pos := "wire.go:59", after := #[{ on := 5, ground := Ground.data }], guard := none }) rfl rfl (by kernel_rfl) (by rfl) (fun u2 hS2 K hK => ?_)
  have HK := Lib.hid hK
  have HS := Lib.hid hS2
  clear hK hS2
  refine wp_call_op (f := 23) (args := #[.slice (some ⟨bl, 0, none⟩) 2 2]) (w1 := u2) (by go_simp) ((HJ.out u2 HS.out).mono ?_)
  rintro e w5 ⟨aj, mj, cj, rfl, ho, g⟩
  have Gw5 := Lib.hid (grownBy_trans HS.out g)
  have Zw5 := Lib.hid HS.out.size
  have OJ := Lib.hid ho
  have Z5 := Lib.hid (show w.heap.size ≤ u2.heap.size from Nat.le_trans HG1.out.size (Nat.le_trans (grownBy_trans Gw3.out Gw4.out).size HS.out.size))
  clear ho
  refine ⟨_, rfl, HK.out (fun u => w5.grownBy u none) _ _ (World.grownBy.refl _ _) (fun u h => grownBy_trans Gw5.out h) (clo_grown w5) ?_⟩
  clear HK HS g
  simp only [Act.put, List.setIfInBounds_toArray, List.set_cons_zero, List.set_cons_succ]
  refine wpX_last (oL := { dst := some 4, op := Op.assign (Operand.tmp 14), type := 24, pos := "wire.go:59", after := #[{ on := 6, ground := Ground.data }, { on := 6, ground := Ground.chain }, { on := 0, ground := Ground.phase }, { on := 1, ground := Ground.phase }, { on := 2, ground := Ground.phase }, { on := 3, ground := Ground.phase }, { on := 4, ground := Ground.phase }, { on := 5, ground := Ground.phase }, { on := 6, ground := Ground.phase }], guard := none }) rfl (by kernel_rfl) (by kernel_rfl) (by rfl) (fun u4 hS4 K4 hK4 => ?_)
  refine wp_val_op (v := .slice aj mj cj) (w1 := u4) (by rfl) (hK4 _ _ ?_)
  simp only [Act.put, List.setIfInBounds_toArray, List.set_cons_zero, List.set_cons_succ]
  refine ⟨by first | rfl | trivial, ?_⟩
  obtain ⟨w6, h6⟩ : ∃ w6, w6 = u4 := ⟨_, rfl⟩
  rw [← h6] at hS4 ⊢
  have HO6 := Lib.hid (BOwn.mono (BOwn.grown OJ.out hS4) Z5.out)
  have g16 : w1.grownBy w6 none := grownBy_trans (grownBy_trans (grownBy_trans Gw3.out Gw4.out) Gw5.out) hS4
  have HG6 := Lib.hid (grownBy_trans HG1.out g16)
  have R6 := Lib.hid (R1.out.grown g16)
  have hmj : mj = 17 := by have h := OJ.out.len; simp [HX.out] at h; omega
  have HM := Lib.hid hmj
  clear h6 hS4 hK4 g16 OJ Z5 Gw3 Gw4 Gw5 Zw3 Zw4 Zw5 RK RL HJ R1 HMA hmj
  have k6 : w6.cell? ⟨bx, 0, none⟩ = some (.int .u8 KK) := by have c := rq_kind R6.out; rw [HKq.out] at c; exact c
  have b2 : (KK == 2) = false := by rw [beq_eq_false_iff_ne]; omega
  have b3 : (KK == 3) = false := by rw [beq_eq_false_iff_ne]; omega
  have b4 : (KK == 4) = false := by rw [beq_eq_false_iff_ne]; omega
  have b5 : (KK == 5) = true := by rw [beq_iff_eq]; omega
  have HHK := Lib.hid hkk
  have OJL := Lib.hid (show mj = (UInt8.ofNat q.kind :: q.ix).length from by have h1 := HM.out; have h2 := HX.out; simp; omega)
  have hwho : q.who < 4294967296 := by have h := HOK.out; unfold LeaseOk at h; omega
  clear hkk hK
  have c3 := rq_cell R6.out HX.out 3
  simp at c3
  go_wp2_with (first
    | (go_at_call 24; refine (big32_e q.who hwho _).mono ?_; rintro e w7 ⟨gw, rfl, ho, g⟩; have OW := Lib.hid ho; have G7 := Lib.hid g; clear ho g c3 k6)
    | (go_at_call 23; obtain ⟨w8, h8⟩ : ∃ w8, w8 = w7.alloc (.cells #[.slice aj mj cj, .slice (some ⟨gw, 0, none⟩) 4 4] 24) := ⟨_, rfl⟩; rw [← h8]; have g8 : w7.grownBy w8 none := h8 ▸ World.grownBy_alloc _ _ _; have r8 : Row w8 w7.heap.size 24 #[.slice aj mj cj, .slice (some ⟨gw, 0, none⟩) 4 4] := h8 ▸ heap_alloc_new w7 _; have G8 := Lib.hid g8; have R8 := Lib.hid r8; clear h8 g8 r8; refine (joinB_n (some ⟨w7.heap.size, 0, none⟩) 2 2 [⟨aj, mj, cj⟩, ⟨some ⟨gw, 0, none⟩, 4, 4⟩] [UInt8.ofNat q.kind :: q.ix, bigL 4 q.who] w8 (row_llies R8.out rfl (fun i h h' => match i, h, h' with | 0, _, _ => ⟨(BOwn.grown HO6.out (grownBy_trans G7.out G8.out)).lies, OJL.out⟩ | 1, _, _ => ⟨(BOwn.grown OW.out G8.out).lies, (bigL_length 4 q.who).symm⟩)) rfl (by simp [bigL_length, HX.out]) (by omega)).mono ?_; rintro e w9 ⟨ak, mk, ck, rfl, ho, g⟩; have HO9 := Lib.hid (BOwn.mono ho (show w.heap.size ≤ w8.heap.size from Nat.le_trans HG6.out.size (grownBy_trans G7.out G8.out).size)); have HG9 := Lib.hid (grownBy_trans HG6.out (grownBy_trans (grownBy_trans G7.out G8.out) g)); clear ho g))
  go_ret2
  refine ⟨_, _, _, rfl, ?_, HG9.out⟩
  rw [show encQ q = ([UInt8.ofNat q.kind :: q.ix, bigL 4 q.who] : List (List UInt8)).flatten from by have h1 := HHK.out; unfold encQ; simp [h1]]
  exact HO9.out
set_option maxRecDepth 100000 in
set_option maxHeartbeats 4000000 in
theorem putReq_4 (q : Rq) (a : Option Addr) (n c : Nat) (w : World) (hx : q.ix.length = 16) (hk : q.kind < 256) (hbs : BLies w a q.bytes) (hn : q.bytes.length = n) (hok : LeaseOk q.who q.till) (hnm : n ≤ maxLen) (hmay : MayQ q) (hkk : q.kind = 4) :
    Calls Try.prog 15 #[.agg (rqC q (.slice a n c))] w fun e w' => ∃ a' n' c', e = .returned (.tuple #[.slice a' n' c', .int .i64 (putQE q)]) ∧ BOwn w' w.heap.size a' n' c' (putQL q) ∧ w.grownBy w' none := by
  have hL : putQL q = encQ q := if_pos hmay
  have hE : putQE q = 0 := if_pos hmay
  rw [hL, hE]
  have hd : decide (MayQ q) = true := decide_eq_true hmay
  have hma := fun W => mayAsk_n q a n c W hx hn hok hnm
  rw [hd] at hma
  have HMA := Lib.hid hma
  have HBS := Lib.hid hbs
  have HN := Lib.hid hn
  have HX := Lib.hid hx
  have HMAY := Lib.hid hmay
  clear hL hE hd hma hbs hn hx hmay hnm
  go_enter Try.func15, Try.ntmps15
  go_wp2_with (first
    | (refine wpList_boxed rfl rfl (rqC q (.slice a n c)) rfl ?_; intro wb hs g hr; have HG := Lib.hid g; have HB := Lib.hid (show Row wb w.heap.size 43 (rqC q (.slice a n c)) from hr); clear hs g hr)
    | (refine wpList_load_row rfl 43 _ rfl w.heap.size rfl 43 (rqC q (.slice a n c)) (0, 0) _ HB.out Try.underlying43 rfl (by rw [size_req]; exact congrArg some (rq_len q _ HX.out).symm) ?_))
  refine (HMA.out wb).mono ?_
  rintro e w1 ⟨rfl, g⟩
  have HG1 := Lib.hid (grownBy_trans HG.out g)
  have R1 := Lib.hid (HB.out.grown g)
  clear g HB HG
  obtain ⟨bx, hbx⟩ : ∃ bx, bx = w.heap.size := ⟨_, rfl⟩
  rw [← hbx] at R1 ⊢
  have HBX := Lib.hid hbx
  obtain ⟨KK, hK⟩ : ∃ KK : Int, (q.kind : Int) = KK := ⟨_, rfl⟩
  have HKq := Lib.hid hK
  have HBV := Lib.hid (show bval (UInt8.ofNat q.kind) = .int .u8 KK from by rw [bval_nat _ hk, hK])
  have HOK := Lib.hid hok
  clear hbx hok hk
  go_upto_region 3 with fail
  refine wp_normal ?_
  refine wp_regionX (fun u => w1.grownBy u none) 7 (by kernel_rfl) (grownBy_drewN w1 1 none) ?_
  refine wpX_take 0 (v := .pointer (some ⟨bx, 0, none⟩)) (oi := { dst := some 8, op := Op.fieldAddr 43 (Operand.tmp 1) 0, type := 0, pos := "wire.go:59", after := #[], guard := none }) (oL := oLWireReqP0) (clo_grown _) rfl rfl rfl (by kernel_rfl) (by kernel_rfl) (by kernel_rfl) (by kernel_rfl) (by kernel_rfl) (fun _ _ _ h => by cases h.1) (YG.val (by rfl) (fun _ _ => by go_simp)) ?_
  simp only [Act.put, List.setIfInBounds_toArray, List.set_cons_zero, List.set_cons_succ]
  refine wpX_take 1 (v := .int .u8 KK) (oi := { dst := some 9, op := Op.load 36 (Operand.tmp 8), type := 36, pos := "wire.go:59", after := #[{ on := 0, ground := Ground.data }], guard := none }) (oL := oLWireReqP0) (clo_grown _) rfl rfl rfl (by kernel_rfl) (by kernel_rfl) (by kernel_rfl) (by kernel_rfl) (by kernel_rfl) (fun _ _ _ h => by cases h.1) (YG.val (by rfl) (fun u hu => by have c := rq_kind (R1.out.grown hu); rw [HKq.out] at c; go_simp)) ?_
  simp only [Act.put, List.setIfInBounds_toArray, List.set_cons_zero, List.set_cons_succ]
  refine wpX_take 3 (v := .pointer (some ⟨bx, 1, none⟩)) (oi := { dst := some 11, op := Op.fieldAddr 43 (Operand.tmp 1) 1, type := 0, pos := "wire.go:59", after := #[], guard := none }) (oL := oLWireReqP0) (clo_grown _) rfl rfl rfl (by kernel_rfl) (by kernel_rfl) (by kernel_rfl) (by kernel_rfl) (by kernel_rfl) (fun _ _ _ h => by cases h.1) (YG.val (by rfl) (fun _ _ => by go_simp)) ?_
  simp only [Act.put, List.setIfInBounds_toArray, List.set_cons_zero, List.set_cons_succ]
  refine wpX_take 4 (v := .slice (some ⟨bx, 1, none⟩) 16 16) (oi := { dst := some 12, op := Op.slice 38 (Operand.tmp 11) none none none, type := 24, pos := "wire.go:59", after := #[{ on := 3, ground := Ground.data }], guard := none }) (oL := oLWireReqP0) (clo_grown _) rfl rfl rfl (by kernel_rfl) (by kernel_rfl) (by kernel_rfl) (by kernel_rfl) (by kernel_rfl) (fun _ _ _ h => by cases h.1) (YG.val (by rfl) (fun _ _ => by go_simp)) ?_
  simp only [Act.put, List.setIfInBounds_toArray, List.set_cons_zero, List.set_cons_succ]
  refine wpX_step 2 (o := { dst := some 10, op := Op.buildSlice 24 1 #[(0, Operand.tmp 9)], type := 24, pos := "wire.go:59", after := #[{ on := 1, ground := Ground.data }], guard := none }) rfl rfl (by kernel_rfl) (by rfl) (fun u2 hS2 K hK => ?_)
  have HK := Lib.hid hK
  have HS := Lib.hid hS2
  clear hK hS2
  refine wp_val_op (v := .slice (some ⟨u2.heap.size, 0, none⟩) 1 1) (w1 := u2.alloc (.cells #[.int .u8 KK] 5)) (by go_simp) ?_
  obtain ⟨w3, hW⟩ : ∃ w3, w3 = u2.alloc (.cells #[.int .u8 KK] 5) := ⟨_, rfl⟩
  have g : u2.grownBy w3 none := hW ▸ World.grownBy_alloc _ _ _
  have hr : Row w3 u2.heap.size 5 #[.int .u8 KK] := hW ▸ heap_alloc_new u2 _
  rw [← hW]
  obtain ⟨bk, hb⟩ : ∃ bk, bk = u2.heap.size := ⟨_, rfl⟩
  rw [← hb] at hr ⊢
  have Gw3 := Lib.hid (grownBy_trans HS.out g)
  have Zw3 := Lib.hid HS.out.size
  have RK := Lib.hid hr
  clear hr hb hW
  refine HK.out (fun u => w3.grownBy u none) _ _ (World.grownBy.refl _ _) (fun u h => grownBy_trans Gw3.out h) (clo_grown w3) ?_
  clear HK HS g
  simp only [Act.put, List.setIfInBounds_toArray, List.set_cons_zero, List.set_cons_succ]
  refine wpX_step 5 (o := { dst := some 13, op := Op.buildSlice 52 2 #[(0, Operand.tmp 10), (1, Operand.tmp 12)], type := 52, pos := "wire.go:59", after := #[{ on := 2, ground := Ground.data }, { on := 4, ground := Ground.data }], guard := none }) rfl rfl (by kernel_rfl) (by rfl) (fun u2 hS2 K hK => ?_)
  have HK := Lib.hid hK
  have HS := Lib.hid hS2
  clear hK hS2
  refine wp_val_op (v := .slice (some ⟨u2.heap.size, 0, none⟩) 2 2) (w1 := u2.alloc (.cells #[.slice (some ⟨bk, 0, none⟩) 1 1, .slice (some ⟨bx, 1, none⟩) 16 16] 24)) (by go_simp) ?_
  obtain ⟨w4, hW⟩ : ∃ w4, w4 = u2.alloc (.cells #[.slice (some ⟨bk, 0, none⟩) 1 1, .slice (some ⟨bx, 1, none⟩) 16 16] 24) := ⟨_, rfl⟩
  have g : u2.grownBy w4 none := hW ▸ World.grownBy_alloc _ _ _
  have hr : Row w4 u2.heap.size 24 #[.slice (some ⟨bk, 0, none⟩) 1 1, .slice (some ⟨bx, 1, none⟩) 16 16] := hW ▸ heap_alloc_new u2 _
  rw [← hW]
  obtain ⟨bl, hb⟩ : ∃ bl, bl = u2.heap.size := ⟨_, rfl⟩
  rw [← hb] at hr ⊢
  have Gw4 := Lib.hid (grownBy_trans HS.out g)
  have Zw4 := Lib.hid HS.out.size
  have RL := Lib.hid hr
  replace RK := Lib.hid (RK.out.grown (grownBy_trans HS.out g))
  clear hr hb hW
  refine HK.out (fun u => w4.grownBy u none) _ _ (World.grownBy.refl _ _) (fun u h => grownBy_trans Gw4.out h) (clo_grown w4) ?_
  clear HK HS g
  simp only [Act.put, List.setIfInBounds_toArray, List.set_cons_zero, List.set_cons_succ]
  have hj : ∀ u, w4.grownBy u none → Calls Try.prog 23 #[.slice (some ⟨bl, 0, none⟩) 2 2] u fun e w' => ∃ a' m' c', e = .returned (.slice a' m' c') ∧ BOwn w' u.heap.size a' m' c' (UInt8.ofNat q.kind :: q.ix) ∧ u.grownBy w' none := fun u hu => by
    have hl : LLies u (some ⟨bl, 0, none⟩) [⟨some ⟨bk, 0, none⟩, 1, 1⟩, ⟨some ⟨bx, 1, none⟩, 16, 16⟩] [[UInt8.ofNat q.kind], q.ix] := by
      refine row_llies (RL.out.grown hu) rfl (fun i h h' => ?_)
      match i, h, h' with
      | 0, _, _ =>
        refine ⟨BRow.lies (t := 5) ?_, rfl⟩
        have e : rowB [UInt8.ofNat q.kind] = #[.int .u8 KK] := by unfold rowB; rw [List.map_singleton, HBV.out]
        show Row _ _ _ (rowB [UInt8.ofNat q.kind])
        rw [e]
        exact RK.out.grown hu
      | 1, _, _ => exact ⟨rq_blies (R1.out.grown (grownBy_trans (grownBy_trans Gw3.out Gw4.out) hu)) HX.out, HX.out.symm⟩
    have h := joinB_n (some ⟨bl, 0, none⟩) 2 2 _ _ u hl rfl (by simp [HX.out]) (by omega)
    have e : ([[UInt8.ofNat q.kind], q.ix] : List (List UInt8)).flatten = UInt8.ofNat q.kind :: q.ix := by simp
    rw [e] at h
    exact h
  have HJ := Lib.hid hj
  clear hj
  refine wpX_step 6 (o := { dst := some 14, op := Op.call { callee := Callee.value (Operand.func 23), args := #[Operand.tmp 13], argTypes := #[52] }, type := 24, pos := "wire.go:59", after := #[{ on := 5, ground := Ground.data }], guard := none }) rfl rfl (by kernel_rfl) (by rfl) (fun u2 hS2 K hK => ?_)
  have HK := Lib.hid hK
  have HS := Lib.hid hS2
  clear hK hS2
  refine wp_call_op (f := 23) (args := #[.slice (some ⟨bl, 0, none⟩) 2 2]) (w1 := u2) (by go_simp) ((HJ.out u2 HS.out).mono ?_)
  rintro e w5 ⟨aj, mj, cj, rfl, ho, g⟩
  have Gw5 := Lib.hid (grownBy_trans HS.out g)
  have Zw5 := Lib.hid HS.out.size
  have OJ := Lib.hid ho
  have Z5 := Lib.hid (show w.heap.size ≤ u2.heap.size from Nat.le_trans HG1.out.size (Nat.le_trans (grownBy_trans Gw3.out Gw4.out).size HS.out.size))
  clear ho
  refine ⟨_, rfl, HK.out (fun u => w5.grownBy u none) _ _ (World.grownBy.refl _ _) (fun u h => grownBy_trans Gw5.out h) (clo_grown w5) ?_⟩
  clear HK HS g
  simp only [Act.put, List.setIfInBounds_toArray, List.set_cons_zero, List.set_cons_succ]
  refine wpX_last (oL := { dst := some 4, op := Op.assign (Operand.tmp 14), type := 24, pos := "wire.go:59", after := #[{ on := 6, ground := Ground.data }, { on := 6, ground := Ground.chain }, { on := 0, ground := Ground.phase }, { on := 1, ground := Ground.phase }, { on := 2, ground := Ground.phase }, { on := 3, ground := Ground.phase }, { on := 4, ground := Ground.phase }, { on := 5, ground := Ground.phase }, { on := 6, ground := Ground.phase }], guard := none }) rfl (by kernel_rfl) (by kernel_rfl) (by rfl) (fun u4 hS4 K4 hK4 => ?_)
  refine wp_val_op (v := .slice aj mj cj) (w1 := u4) (by rfl) (hK4 _ _ ?_)
  simp only [Act.put, List.setIfInBounds_toArray, List.set_cons_zero, List.set_cons_succ]
  refine ⟨by first | rfl | trivial, ?_⟩
  obtain ⟨w6, h6⟩ : ∃ w6, w6 = u4 := ⟨_, rfl⟩
  rw [← h6] at hS4 ⊢
  have HO6 := Lib.hid (BOwn.mono (BOwn.grown OJ.out hS4) Z5.out)
  have g16 : w1.grownBy w6 none := grownBy_trans (grownBy_trans (grownBy_trans Gw3.out Gw4.out) Gw5.out) hS4
  have HG6 := Lib.hid (grownBy_trans HG1.out g16)
  have R6 := Lib.hid (R1.out.grown g16)
  have hmj : mj = 17 := by have h := OJ.out.len; simp [HX.out] at h; omega
  have HM := Lib.hid hmj
  clear h6 hS4 hK4 g16 OJ Z5 Gw3 Gw4 Gw5 Zw3 Zw4 Zw5 RK RL HJ R1 HMA hmj
  have k6 : w6.cell? ⟨bx, 0, none⟩ = some (.int .u8 KK) := by have c := rq_kind R6.out; rw [HKq.out] at c; exact c
  have b2 : (KK == 2) = false := by rw [beq_eq_false_iff_ne]; omega
  have b3 : (KK == 3) = false := by rw [beq_eq_false_iff_ne]; omega
  have b4 : (KK == 4) = true := by rw [beq_iff_eq]; omega
  have b5 : (KK == 5) = false := by rw [beq_eq_false_iff_ne]; omega
  have HHK := Lib.hid hkk
  have OJL := Lib.hid (show mj = (UInt8.ofNat q.kind :: q.ix).length from by have h1 := HM.out; have h2 := HX.out; simp; omega)
  have HMQ := HMAY.out
  unfold MayQ at HMQ
  have hwho : q.who < 4294967296 := by have h := HOK.out; unfold LeaseOk at h; omega
  obtain ⟨T, hT⟩ : ∃ T : Nat, q.till = (T : Int) := ⟨q.till.toNat, by omega⟩
  have HT := Lib.hid hT
  have HTN := Lib.hid (show q.till.toNat = T by omega)
  have hTb : T ≤ 1099511627776 := by omega
  have hwT : IntKind.u64.wrap (T : Int) = (T : Int) := by rw [show IntKind.u64.wrap (T : Int) = (T : Int) % 18446744073709551616 from rfl]; omega
  clear HMQ hT
  clear hkk hK
  go_upto_region 10 with fail
  refine wp_normal ?_
  refine wp_regionX (fun u => w6.grownBy u none) 12 (by kernel_rfl) (grownBy_drewN w6 1 none) ?_
  refine wpX_take 0 (v := .slice aj mj cj) (oi := { dst := some 61, op := Op.move (Operand.tmp 4), type := 24, pos := "wire.go:66", after := #[], guard := none }) (oL := oLWireReqP1) (clo_grown _) rfl rfl rfl (by kernel_rfl) (by kernel_rfl) (by kernel_rfl) (by kernel_rfl) (by kernel_rfl) (fun _ _ _ h => by cases h.1) (YG.val (by rfl) (fun _ _ => by go_simp)) ?_
  simp only [Act.put, List.setIfInBounds_toArray, List.set_cons_zero, List.set_cons_succ]
  refine wpX_take 1 (v := .pointer (some ⟨bx, 20, none⟩)) (oi := { dst := some 62, op := Op.fieldAddr 43 (Operand.tmp 1) 5, type := 0, pos := "wire.go:66", after := #[], guard := none }) (oL := oLWireReqP1) (clo_grown _) rfl rfl rfl (by kernel_rfl) (by kernel_rfl) (by kernel_rfl) (by kernel_rfl) (by kernel_rfl) (fun _ _ _ h => by cases h.1) (YG.val (by rfl) (fun _ _ => by go_simp)) ?_
  simp only [Act.put, List.setIfInBounds_toArray, List.set_cons_zero, List.set_cons_succ]
  refine wpX_take 2 (v := .pointer (some ⟨bx, 20, none⟩)) (oi := { dst := some 63, op := Op.fieldAddr 41 (Operand.tmp 62) 0, type := 0, pos := "wire.go:66", after := #[{ on := 1, ground := Ground.data }], guard := none }) (oL := oLWireReqP1) (clo_grown _) rfl rfl rfl (by kernel_rfl) (by kernel_rfl) (by kernel_rfl) (by kernel_rfl) (by kernel_rfl) (fun _ _ _ h => by cases h.1) (YG.val (by rfl) (fun _ _ => by go_simp)) ?_
  simp only [Act.put, List.setIfInBounds_toArray, List.set_cons_zero, List.set_cons_succ]
  refine wpX_take 3 (v := .int .u32 (q.who : Int)) (oi := { dst := some 64, op := Op.load 39 (Operand.tmp 63), type := 39, pos := "wire.go:66", after := #[{ on := 2, ground := Ground.data }], guard := none }) (oL := oLWireReqP1) (clo_grown _) rfl rfl rfl (by kernel_rfl) (by kernel_rfl) (by kernel_rfl) (by kernel_rfl) (by kernel_rfl) (fun _ _ _ h => by cases h.1) (YG.val (by rfl) (fun u hu => by have c := rq_cell (R6.out.grown hu) HX.out 3; simp at c; go_simp)) ?_
  simp only [Act.put, List.setIfInBounds_toArray, List.set_cons_zero, List.set_cons_succ]
  refine wpX_take 5 (v := .pointer (some ⟨bx, 20, none⟩)) (oi := { dst := some 66, op := Op.fieldAddr 43 (Operand.tmp 1) 5, type := 0, pos := "wire.go:66", after := #[], guard := none }) (oL := oLWireReqP1) (clo_grown _) rfl rfl rfl (by kernel_rfl) (by kernel_rfl) (by kernel_rfl) (by kernel_rfl) (by kernel_rfl) (fun _ _ _ h => by cases h.1) (YG.val (by rfl) (fun _ _ => by go_simp)) ?_
  simp only [Act.put, List.setIfInBounds_toArray, List.set_cons_zero, List.set_cons_succ]
  refine wpX_take 6 (v := .pointer (some ⟨bx, 21, none⟩)) (oi := { dst := some 67, op := Op.fieldAddr 41 (Operand.tmp 66) 1, type := 0, pos := "wire.go:66", after := #[{ on := 5, ground := Ground.data }], guard := none }) (oL := oLWireReqP1) (clo_grown _) rfl rfl rfl (by kernel_rfl) (by kernel_rfl) (by kernel_rfl) (by kernel_rfl) (by kernel_rfl) (fun _ _ _ h => by cases h.1) (YG.val (by rfl) (fun _ _ => by go_simp)) ?_
  simp only [Act.put, List.setIfInBounds_toArray, List.set_cons_zero, List.set_cons_succ]
  refine wpX_take 7 (v := .int .i64 (T : Int)) (oi := { dst := some 68, op := Op.load 3 (Operand.tmp 67), type := 3, pos := "wire.go:66", after := #[{ on := 6, ground := Ground.data }], guard := none }) (oL := oLWireReqP1) (clo_grown _) rfl rfl rfl (by kernel_rfl) (by kernel_rfl) (by kernel_rfl) (by kernel_rfl) (by kernel_rfl) (fun _ _ _ h => by cases h.1) (YG.val (by rfl) (fun u hu => by have c := rq_cell (R6.out.grown hu) HX.out 4; rw [HT.out] at c; simp at c; go_simp)) ?_
  simp only [Act.put, List.setIfInBounds_toArray, List.set_cons_zero, List.set_cons_succ]
  refine wpX_take 8 (v := .int .u64 (T : Int)) (oi := { dst := some 69, op := Op.convert 3 87 (Operand.tmp 68), type := 87, pos := "wire.go:66", after := #[{ on := 7, ground := Ground.data }], guard := none }) (oL := oLWireReqP1) (clo_grown _) rfl rfl rfl (by kernel_rfl) (by kernel_rfl) (by kernel_rfl) (by kernel_rfl) (by kernel_rfl) (fun _ _ _ h => by cases h.1) (YG.val (by rfl) (fun _ _ => by go_simp)) ?_
  simp only [Act.put, List.setIfInBounds_toArray, List.set_cons_zero, List.set_cons_succ]
  refine wpX_step 4 (o := { dst := some 65, op := Op.call { callee := Callee.value (Operand.func 24), args := #[Operand.tmp 64], argTypes := #[39] }, type := 24, pos := "wire.go:66", after := #[{ on := 3, ground := Ground.data }], guard := none }) rfl rfl (by kernel_rfl) (by rfl) (fun u2 hS2 K hK => ?_)
  have HK := Lib.hid hK
  have HS := Lib.hid hS2
  clear hK hS2
  refine wp_call_op (f := 24) (args := #[.int .u32 (q.who : Int)]) (w1 := u2) (by go_simp) ((big32_e q.who (hwho) u2).mono ?_)
  rintro e v1 ⟨gw, rfl, ho, g⟩
  have Gv1 := Lib.hid (grownBy_trans HS.out g)
  have Zv1 := Lib.hid HS.out.size
  have Ogw := Lib.hid ho
  clear ho
  refine ⟨_, rfl, HK.out (fun u => v1.grownBy u none) _ _ (World.grownBy.refl _ _) (fun u h => grownBy_trans Gv1.out h) (clo_grown v1) ?_⟩
  clear HK HS g
  simp only [Act.put, List.setIfInBounds_toArray, List.set_cons_zero, List.set_cons_succ]
  refine wpX_step 9 (o := { dst := some 70, op := Op.call { callee := Callee.value (Operand.func 33), args := #[Operand.tmp 69], argTypes := #[87] }, type := 24, pos := "wire.go:66", after := #[{ on := 8, ground := Ground.data }, { on := 4, ground := Ground.chain }], guard := none }) rfl rfl (by kernel_rfl) (by rfl) (fun u2 hS2 K hK => ?_)
  have HK := Lib.hid hK
  have HS := Lib.hid hS2
  clear hK hS2
  refine wp_call_op (f := 33) (args := #[.int .u64 (T : Int)]) (w1 := u2) (by go_simp) ((big64_e T (by omega) u2).mono ?_)
  rintro e v2 ⟨gt, rfl, ho, g⟩
  have Gv2 := Lib.hid (grownBy_trans HS.out g)
  have Zv2 := Lib.hid HS.out.size
  replace Ogw := Lib.hid (BOwn.grown Ogw.out (grownBy_trans HS.out g))
  have Ogt := Lib.hid ho
  clear ho
  refine ⟨_, rfl, HK.out (fun u => v2.grownBy u none) _ _ (World.grownBy.refl _ _) (fun u h => grownBy_trans Gv2.out h) (clo_grown v2) ?_⟩
  clear HK HS g
  simp only [Act.put, List.setIfInBounds_toArray, List.set_cons_zero, List.set_cons_succ]
  refine wpX_step 10 (o := { dst := some 71, op := Op.buildSlice 52 3 #[(0, Operand.tmp 61), (1, Operand.tmp 65), (2, Operand.tmp 70)], type := 52, pos := "wire.go:66", after := #[{ on := 0, ground := Ground.data }, { on := 4, ground := Ground.data }, { on := 9, ground := Ground.data }], guard := none }) rfl rfl (by kernel_rfl) (by rfl) (fun u2 hS2 K hK => ?_)
  have HK := Lib.hid hK
  have HS := Lib.hid hS2
  clear hK hS2
  refine wp_val_op (v := .slice (some ⟨u2.heap.size, 0, none⟩) 3 3) (w1 := u2.alloc (.cells #[.slice aj mj cj, .slice (some ⟨gw, 0, none⟩) 4 4, .slice (some ⟨gt, 0, none⟩) 8 8] 24)) (by go_simp) ?_
  obtain ⟨v3, hW⟩ : ∃ v3, v3 = u2.alloc (.cells #[.slice aj mj cj, .slice (some ⟨gw, 0, none⟩) 4 4, .slice (some ⟨gt, 0, none⟩) 8 8] 24) := ⟨_, rfl⟩
  have g : u2.grownBy v3 none := hW ▸ World.grownBy_alloc _ _ _
  have hr : Row v3 u2.heap.size 24 #[.slice aj mj cj, .slice (some ⟨gw, 0, none⟩) 4 4, .slice (some ⟨gt, 0, none⟩) 8 8] := hW ▸ heap_alloc_new u2 _
  rw [← hW]
  obtain ⟨b2, hb⟩ : ∃ b2, b2 = u2.heap.size := ⟨_, rfl⟩
  rw [← hb] at hr ⊢
  have Gv3 := Lib.hid (grownBy_trans HS.out g)
  have Zv3 := Lib.hid HS.out.size
  replace Ogw := Lib.hid (BOwn.grown Ogw.out (grownBy_trans HS.out g))
  replace Ogt := Lib.hid (BOwn.grown Ogt.out (grownBy_trans HS.out g))
  have R2L := Lib.hid hr
  clear hr hb hW
  refine HK.out (fun u => v3.grownBy u none) _ _ (World.grownBy.refl _ _) (fun u h => grownBy_trans Gv3.out h) (clo_grown v3) ?_
  clear HK HS g
  simp only [Act.put, List.setIfInBounds_toArray, List.set_cons_zero, List.set_cons_succ]
  have hj : ∀ u, v3.grownBy u none → Calls Try.prog 23 #[.slice (some ⟨b2, 0, none⟩) 3 3] u fun e w' => ∃ a' m' c', e = .returned (.slice a' m' c') ∧ BOwn w' u.heap.size a' m' c' ([(UInt8.ofNat q.kind :: q.ix), bigL 4 q.who, bigL 8 T] : List (List UInt8)).flatten ∧ u.grownBy w' none := fun u hu => by
    have hl : LLies u (some ⟨b2, 0, none⟩) [⟨aj, mj, cj⟩, ⟨some ⟨gw, 0, none⟩, 4, 4⟩, ⟨some ⟨gt, 0, none⟩, 8, 8⟩] [(UInt8.ofNat q.kind :: q.ix), bigL 4 q.who, bigL 8 T] := by
      refine row_llies (R2L.out.grown hu) rfl (fun i h h' => ?_)
      match i, h, h' with
      | 0, _, _ => exact ⟨(BOwn.grown HO6.out (grownBy_trans (grownBy_trans (grownBy_trans Gv1.out Gv2.out) Gv3.out) hu)).lies, OJL.out⟩
      | 1, _, _ => exact ⟨(BOwn.grown Ogw.out hu).lies, (bigL_length 4 q.who).symm⟩
      | 2, _, _ => exact ⟨(BOwn.grown Ogt.out hu).lies, (bigL_length 8 T).symm⟩
    exact joinB_n (some ⟨b2, 0, none⟩) 3 3 _ _ u hl rfl (by simp [bigL_length, HX.out]) (by omega)
  have HJ := Lib.hid hj
  clear hj
  refine wpX_step 11 (o := { dst := some 72, op := Op.call { callee := Callee.value (Operand.func 23), args := #[Operand.tmp 71], argTypes := #[52] }, type := 24, pos := "wire.go:66", after := #[{ on := 10, ground := Ground.data }, { on := 9, ground := Ground.chain }], guard := none }) rfl rfl (by kernel_rfl) (by rfl) (fun u2 hS2 K hK => ?_)
  have HK := Lib.hid hK
  have HS := Lib.hid hS2
  clear hK hS2
  refine wp_call_op (f := 23) (args := #[.slice (some ⟨b2, 0, none⟩) 3 3]) (w1 := u2) (by go_simp) ((HJ.out u2 HS.out).mono ?_)
  rintro e v4 ⟨ak, mk, ck, rfl, ho, g⟩
  have Gv4 := Lib.hid (grownBy_trans HS.out g)
  have Zv4 := Lib.hid HS.out.size
  have OK2 := Lib.hid ho
  have ZK := Lib.hid (show w.heap.size ≤ u2.heap.size from Nat.le_trans HG6.out.size (Nat.le_trans (grownBy_trans (grownBy_trans Gv1.out Gv2.out) Gv3.out).size HS.out.size))
  clear ho
  refine ⟨_, rfl, HK.out (fun u => v4.grownBy u none) _ _ (World.grownBy.refl _ _) (fun u h => grownBy_trans Gv4.out h) (clo_grown v4) ?_⟩
  clear HK HS g
  simp only [Act.put, List.setIfInBounds_toArray, List.set_cons_zero, List.set_cons_succ]
  refine wpX_last (oL := { dst := some 4, op := Op.assign (Operand.tmp 72), type := 24, pos := "wire.go:66", after := #[{ on := 11, ground := Ground.data }, { on := 11, ground := Ground.chain }, { on := 0, ground := Ground.phase }, { on := 1, ground := Ground.phase }, { on := 2, ground := Ground.phase }, { on := 3, ground := Ground.phase }, { on := 4, ground := Ground.phase }, { on := 5, ground := Ground.phase }, { on := 6, ground := Ground.phase }, { on := 7, ground := Ground.phase }, { on := 8, ground := Ground.phase }, { on := 9, ground := Ground.phase }, { on := 10, ground := Ground.phase }, { on := 11, ground := Ground.phase }], guard := none }) rfl (by kernel_rfl) (by kernel_rfl) (by rfl) (fun u4 hS4 K4 hK4 => ?_)
  refine wp_val_op (v := .slice ak mk ck) (w1 := u4) (by rfl) (hK4 _ _ ?_)
  simp only [Act.put, List.setIfInBounds_toArray, List.set_cons_zero, List.set_cons_succ]
  refine ⟨by first | rfl | trivial, ?_⟩
  obtain ⟨w9, h9⟩ : ∃ w9, w9 = u4 := ⟨_, rfl⟩
  rw [← h9] at hS4 ⊢
  have HO9 := Lib.hid (BOwn.mono (BOwn.grown OK2.out hS4) ZK.out)
  have HG9 := Lib.hid (grownBy_trans HG6.out (grownBy_trans (grownBy_trans (grownBy_trans (grownBy_trans Gv1.out Gv2.out) Gv3.out) Gv4.out) hS4))
  clear h9 hS4 hK4
  go_wp2_with fail
  go_ret2
  refine ⟨_, _, _, rfl, ?_, HG9.out⟩
  rw [show encQ q = ([(UInt8.ofNat q.kind :: q.ix), bigL 4 q.who, bigL 8 T] : List (List UInt8)).flatten from by have h1 := HHK.out; unfold encQ; simp [h1, HTN.out]]
  exact HO9.out
set_option maxRecDepth 100000 in
set_option maxHeartbeats 4000000 in
theorem putReq_3 (q : Rq) (a : Option Addr) (n c : Nat) (w : World) (hx : q.ix.length = 16) (hk : q.kind < 256) (hbs : BLies w a q.bytes) (hn : q.bytes.length = n) (hok : LeaseOk q.who q.till) (hnm : n ≤ maxLen) (hmay : MayQ q) (hkk : q.kind = 3) :
    Calls Try.prog 15 #[.agg (rqC q (.slice a n c))] w fun e w' => ∃ a' n' c', e = .returned (.tuple #[.slice a' n' c', .int .i64 (putQE q)]) ∧ BOwn w' w.heap.size a' n' c' (putQL q) ∧ w.grownBy w' none := by
  have hL : putQL q = encQ q := if_pos hmay
  have hE : putQE q = 0 := if_pos hmay
  rw [hL, hE]
  have hd : decide (MayQ q) = true := decide_eq_true hmay
  have hma := fun W => mayAsk_n q a n c W hx hn hok hnm
  rw [hd] at hma
  have HMA := Lib.hid hma
  have HBS := Lib.hid hbs
  have HN := Lib.hid hn
  have HX := Lib.hid hx
  have HMAY := Lib.hid hmay
  clear hL hE hd hma hbs hn hx hmay hnm
  go_enter Try.func15, Try.ntmps15
  go_wp2_with (first
    | (refine wpList_boxed rfl rfl (rqC q (.slice a n c)) rfl ?_; intro wb hs g hr; have HG := Lib.hid g; have HB := Lib.hid (show Row wb w.heap.size 43 (rqC q (.slice a n c)) from hr); clear hs g hr)
    | (refine wpList_load_row rfl 43 _ rfl w.heap.size rfl 43 (rqC q (.slice a n c)) (0, 0) _ HB.out Try.underlying43 rfl (by rw [size_req]; exact congrArg some (rq_len q _ HX.out).symm) ?_))
  refine (HMA.out wb).mono ?_
  rintro e w1 ⟨rfl, g⟩
  have HG1 := Lib.hid (grownBy_trans HG.out g)
  have R1 := Lib.hid (HB.out.grown g)
  clear g HB HG
  obtain ⟨bx, hbx⟩ : ∃ bx, bx = w.heap.size := ⟨_, rfl⟩
  rw [← hbx] at R1 ⊢
  have HBX := Lib.hid hbx
  obtain ⟨KK, hK⟩ : ∃ KK : Int, (q.kind : Int) = KK := ⟨_, rfl⟩
  have HKq := Lib.hid hK
  have HBV := Lib.hid (show bval (UInt8.ofNat q.kind) = .int .u8 KK from by rw [bval_nat _ hk, hK])
  have HOK := Lib.hid hok
  clear hbx hok hk
  go_upto_region 3 with fail
  refine wp_normal ?_
  refine wp_regionX (fun u => w1.grownBy u none) 7 (by kernel_rfl) (grownBy_drewN w1 1 none) ?_
  refine wpX_take 0 (v := .pointer (some ⟨bx, 0, none⟩)) (oi := { dst := some 8, op := Op.fieldAddr 43 (Operand.tmp 1) 0, type := 0, pos := "wire.go:59", after := #[], guard := none }) (oL := oLWireReqP0) (clo_grown _) rfl rfl rfl (by kernel_rfl) (by kernel_rfl) (by kernel_rfl) (by kernel_rfl) (by kernel_rfl) (fun _ _ _ h => by cases h.1) (YG.val (by rfl) (fun _ _ => by go_simp)) ?_
  simp only [Act.put, List.setIfInBounds_toArray, List.set_cons_zero, List.set_cons_succ]
  refine wpX_take 1 (v := .int .u8 KK) (oi := { dst := some 9, op := Op.load 36 (Operand.tmp 8), type := 36, pos := "wire.go:59", after := #[{ on := 0, ground := Ground.data }], guard := none }) (oL := oLWireReqP0) (clo_grown _) rfl rfl rfl (by kernel_rfl) (by kernel_rfl) (by kernel_rfl) (by kernel_rfl) (by kernel_rfl) (fun _ _ _ h => by cases h.1) (YG.val (by rfl) (fun u hu => by have c := rq_kind (R1.out.grown hu); rw [HKq.out] at c; go_simp)) ?_
  simp only [Act.put, List.setIfInBounds_toArray, List.set_cons_zero, List.set_cons_succ]
  refine wpX_take 3 (v := .pointer (some ⟨bx, 1, none⟩)) (oi := { dst := some 11, op := Op.fieldAddr 43 (Operand.tmp 1) 1, type := 0, pos := "wire.go:59", after := #[], guard := none }) (oL := oLWireReqP0) (clo_grown _) rfl rfl rfl (by kernel_rfl) (by kernel_rfl) (by kernel_rfl) (by kernel_rfl) (by kernel_rfl) (fun _ _ _ h => by cases h.1) (YG.val (by rfl) (fun _ _ => by go_simp)) ?_
  simp only [Act.put, List.setIfInBounds_toArray, List.set_cons_zero, List.set_cons_succ]
  refine wpX_take 4 (v := .slice (some ⟨bx, 1, none⟩) 16 16) (oi := { dst := some 12, op := Op.slice 38 (Operand.tmp 11) none none none, type := 24, pos := "wire.go:59", after := #[{ on := 3, ground := Ground.data }], guard := none }) (oL := oLWireReqP0) (clo_grown _) rfl rfl rfl (by kernel_rfl) (by kernel_rfl) (by kernel_rfl) (by kernel_rfl) (by kernel_rfl) (fun _ _ _ h => by cases h.1) (YG.val (by rfl) (fun _ _ => by go_simp)) ?_
  simp only [Act.put, List.setIfInBounds_toArray, List.set_cons_zero, List.set_cons_succ]
  refine wpX_step 2 (o := { dst := some 10, op := Op.buildSlice 24 1 #[(0, Operand.tmp 9)], type := 24, pos := "wire.go:59", after := #[{ on := 1, ground := Ground.data }], guard := none }) rfl rfl (by kernel_rfl) (by rfl) (fun u2 hS2 K hK => ?_)
  have HK := Lib.hid hK
  have HS := Lib.hid hS2
  clear hK hS2
  refine wp_val_op (v := .slice (some ⟨u2.heap.size, 0, none⟩) 1 1) (w1 := u2.alloc (.cells #[.int .u8 KK] 5)) (by go_simp) ?_
  obtain ⟨w3, hW⟩ : ∃ w3, w3 = u2.alloc (.cells #[.int .u8 KK] 5) := ⟨_, rfl⟩
  have g : u2.grownBy w3 none := hW ▸ World.grownBy_alloc _ _ _
  have hr : Row w3 u2.heap.size 5 #[.int .u8 KK] := hW ▸ heap_alloc_new u2 _
  rw [← hW]
  obtain ⟨bk, hb⟩ : ∃ bk, bk = u2.heap.size := ⟨_, rfl⟩
  rw [← hb] at hr ⊢
  have Gw3 := Lib.hid (grownBy_trans HS.out g)
  have Zw3 := Lib.hid HS.out.size
  have RK := Lib.hid hr
  clear hr hb hW
  refine HK.out (fun u => w3.grownBy u none) _ _ (World.grownBy.refl _ _) (fun u h => grownBy_trans Gw3.out h) (clo_grown w3) ?_
  clear HK HS g
  simp only [Act.put, List.setIfInBounds_toArray, List.set_cons_zero, List.set_cons_succ]
  refine wpX_step 5 (o := { dst := some 13, op := Op.buildSlice 52 2 #[(0, Operand.tmp 10), (1, Operand.tmp 12)], type := 52, pos := "wire.go:59", after := #[{ on := 2, ground := Ground.data }, { on := 4, ground := Ground.data }], guard := none }) rfl rfl (by kernel_rfl) (by rfl) (fun u2 hS2 K hK => ?_)
  have HK := Lib.hid hK
  have HS := Lib.hid hS2
  clear hK hS2
  refine wp_val_op (v := .slice (some ⟨u2.heap.size, 0, none⟩) 2 2) (w1 := u2.alloc (.cells #[.slice (some ⟨bk, 0, none⟩) 1 1, .slice (some ⟨bx, 1, none⟩) 16 16] 24)) (by go_simp) ?_
  obtain ⟨w4, hW⟩ : ∃ w4, w4 = u2.alloc (.cells #[.slice (some ⟨bk, 0, none⟩) 1 1, .slice (some ⟨bx, 1, none⟩) 16 16] 24) := ⟨_, rfl⟩
  have g : u2.grownBy w4 none := hW ▸ World.grownBy_alloc _ _ _
  have hr : Row w4 u2.heap.size 24 #[.slice (some ⟨bk, 0, none⟩) 1 1, .slice (some ⟨bx, 1, none⟩) 16 16] := hW ▸ heap_alloc_new u2 _
  rw [← hW]
  obtain ⟨bl, hb⟩ : ∃ bl, bl = u2.heap.size := ⟨_, rfl⟩
  rw [← hb] at hr ⊢
  have Gw4 := Lib.hid (grownBy_trans HS.out g)
  have Zw4 := Lib.hid HS.out.size
  have RL := Lib.hid hr
  replace RK := Lib.hid (RK.out.grown (grownBy_trans HS.out g))
  clear hr hb hW
  refine HK.out (fun u => w4.grownBy u none) _ _ (World.grownBy.refl _ _) (fun u h => grownBy_trans Gw4.out h) (clo_grown w4) ?_
  clear HK HS g
  simp only [Act.put, List.setIfInBounds_toArray, List.set_cons_zero, List.set_cons_succ]
  have hj : ∀ u, w4.grownBy u none → Calls Try.prog 23 #[.slice (some ⟨bl, 0, none⟩) 2 2] u fun e w' => ∃ a' m' c', e = .returned (.slice a' m' c') ∧ BOwn w' u.heap.size a' m' c' (UInt8.ofNat q.kind :: q.ix) ∧ u.grownBy w' none := fun u hu => by
    have hl : LLies u (some ⟨bl, 0, none⟩) [⟨some ⟨bk, 0, none⟩, 1, 1⟩, ⟨some ⟨bx, 1, none⟩, 16, 16⟩] [[UInt8.ofNat q.kind], q.ix] := by
      refine row_llies (RL.out.grown hu) rfl (fun i h h' => ?_)
      match i, h, h' with
      | 0, _, _ =>
        refine ⟨BRow.lies (t := 5) ?_, rfl⟩
        have e : rowB [UInt8.ofNat q.kind] = #[.int .u8 KK] := by unfold rowB; rw [List.map_singleton, HBV.out]
        show Row _ _ _ (rowB [UInt8.ofNat q.kind])
        rw [e]
        exact RK.out.grown hu
      | 1, _, _ => exact ⟨rq_blies (R1.out.grown (grownBy_trans (grownBy_trans Gw3.out Gw4.out) hu)) HX.out, HX.out.symm⟩
    have h := joinB_n (some ⟨bl, 0, none⟩) 2 2 _ _ u hl rfl (by simp [HX.out]) (by omega)
    have e : ([[UInt8.ofNat q.kind], q.ix] : List (List UInt8)).flatten = UInt8.ofNat q.kind :: q.ix := by simp
    rw [e] at h
    exact h
  have HJ := Lib.hid hj
  clear hj
  refine wpX_step 6 (o := { dst := some 14, op := Op.call { callee := Callee.value (Operand.func 23), args := #[Operand.tmp 13], argTypes := #[52] }, type := 24, pos := "wire.go:59", after := #[{ on := 5, ground := Ground.data }], guard := none }) rfl rfl (by kernel_rfl) (by rfl) (fun u2 hS2 K hK => ?_)
  have HK := Lib.hid hK
  have HS := Lib.hid hS2
  clear hK hS2
  refine wp_call_op (f := 23) (args := #[.slice (some ⟨bl, 0, none⟩) 2 2]) (w1 := u2) (by go_simp) ((HJ.out u2 HS.out).mono ?_)
  rintro e w5 ⟨aj, mj, cj, rfl, ho, g⟩
  have Gw5 := Lib.hid (grownBy_trans HS.out g)
  have Zw5 := Lib.hid HS.out.size
  have OJ := Lib.hid ho
  have Z5 := Lib.hid (show w.heap.size ≤ u2.heap.size from Nat.le_trans HG1.out.size (Nat.le_trans (grownBy_trans Gw3.out Gw4.out).size HS.out.size))
  clear ho
  refine ⟨_, rfl, HK.out (fun u => w5.grownBy u none) _ _ (World.grownBy.refl _ _) (fun u h => grownBy_trans Gw5.out h) (clo_grown w5) ?_⟩
  clear HK HS g
  simp only [Act.put, List.setIfInBounds_toArray, List.set_cons_zero, List.set_cons_succ]
  refine wpX_last (oL := { dst := some 4, op := Op.assign (Operand.tmp 14), type := 24, pos := "wire.go:59", after := #[{ on := 6, ground := Ground.data }, { on := 6, ground := Ground.chain }, { on := 0, ground := Ground.phase }, { on := 1, ground := Ground.phase }, { on := 2, ground := Ground.phase }, { on := 3, ground := Ground.phase }, { on := 4, ground := Ground.phase }, { on := 5, ground := Ground.phase }, { on := 6, ground := Ground.phase }], guard := none }) rfl (by kernel_rfl) (by kernel_rfl) (by rfl) (fun u4 hS4 K4 hK4 => ?_)
  refine wp_val_op (v := .slice aj mj cj) (w1 := u4) (by rfl) (hK4 _ _ ?_)
  simp only [Act.put, List.setIfInBounds_toArray, List.set_cons_zero, List.set_cons_succ]
  refine ⟨by first | rfl | trivial, ?_⟩
  obtain ⟨w6, h6⟩ : ∃ w6, w6 = u4 := ⟨_, rfl⟩
  rw [← h6] at hS4 ⊢
  have HO6 := Lib.hid (BOwn.mono (BOwn.grown OJ.out hS4) Z5.out)
  have g16 : w1.grownBy w6 none := grownBy_trans (grownBy_trans (grownBy_trans Gw3.out Gw4.out) Gw5.out) hS4
  have HG6 := Lib.hid (grownBy_trans HG1.out g16)
  have R6 := Lib.hid (R1.out.grown g16)
  have hmj : mj = 17 := by have h := OJ.out.len; simp [HX.out] at h; omega
  have HM := Lib.hid hmj
  clear h6 hS4 hK4 g16 OJ Z5 Gw3 Gw4 Gw5 Zw3 Zw4 Zw5 RK RL HJ R1 HMA hmj
  have k6 : w6.cell? ⟨bx, 0, none⟩ = some (.int .u8 KK) := by have c := rq_kind R6.out; rw [HKq.out] at c; exact c
  have b2 : (KK == 2) = false := by rw [beq_eq_false_iff_ne]; omega
  have b3 : (KK == 3) = true := by rw [beq_iff_eq]; omega
  have b4 : (KK == 4) = false := by rw [beq_eq_false_iff_ne]; omega
  have b5 : (KK == 5) = false := by rw [beq_eq_false_iff_ne]; omega
  have HHK := Lib.hid hkk
  have OJL := Lib.hid (show mj = (UInt8.ofNat q.kind :: q.ix).length from by have h1 := HM.out; have h2 := HX.out; simp; omega)
  have HMQ := HMAY.out
  unfold MayQ at HMQ
  have HNV := Lib.hid (bval_numB (x := q.number) (by omega) (by omega))
  have hwN : IntKind.u8.wrap q.number = q.number := by rw [show IntKind.u8.wrap q.number = q.number % 256 from rfl]; omega
  obtain ⟨P, hP⟩ : ∃ P : Nat, q.pos = (P : Int) := ⟨q.pos.toNat, by omega⟩
  have HP := Lib.hid hP
  have HPN := Lib.hid (show q.pos.toNat = P by omega)
  have hPb : P ≤ 33554432 := by omega
  have hwP : IntKind.u32.wrap (P : Int) = (P : Int) := by rw [show IntKind.u32.wrap (P : Int) = (P : Int) % 4294967296 from rfl]; omega
  obtain ⟨E, hE⟩ : ∃ E : Nat, q.len = (E : Int) := ⟨q.len.toNat, by omega⟩
  have HE := Lib.hid hE
  have HEN := Lib.hid (show q.len.toNat = E by omega)
  have hEb : E ≤ 131072 := by omega
  have hwE : IntKind.u32.wrap (E : Int) = (E : Int) := by rw [show IntKind.u32.wrap (E : Int) = (E : Int) % 4294967296 from rfl]; omega
  clear HMQ hP hE
  clear hkk hK
  go_upto_region 8 with fail
  refine wp_normal ?_
  refine wp_regionX (fun u => w6.grownBy u none) 15 (by kernel_rfl) (grownBy_drewN w6 1 none) ?_
  refine wpX_take 0 (v := .slice aj mj cj) (oi := { dst := some 44, op := Op.move (Operand.tmp 4), type := 24, pos := "wire.go:64", after := #[], guard := none }) (oL := oLWireReqP2) (clo_grown _) rfl rfl rfl (by kernel_rfl) (by kernel_rfl) (by kernel_rfl) (by kernel_rfl) (by kernel_rfl) (fun _ _ _ h => by cases h.1) (YG.val (by rfl) (fun _ _ => by go_simp)) ?_
  simp only [Act.put, List.setIfInBounds_toArray, List.set_cons_zero, List.set_cons_succ]
  refine wpX_take 1 (v := .pointer (some ⟨bx, 17, none⟩)) (oi := { dst := some 45, op := Op.fieldAddr 43 (Operand.tmp 1) 2, type := 0, pos := "wire.go:64", after := #[], guard := none }) (oL := oLWireReqP2) (clo_grown _) rfl rfl rfl (by kernel_rfl) (by kernel_rfl) (by kernel_rfl) (by kernel_rfl) (by kernel_rfl) (fun _ _ _ h => by cases h.1) (YG.val (by rfl) (fun _ _ => by go_simp)) ?_
  simp only [Act.put, List.setIfInBounds_toArray, List.set_cons_zero, List.set_cons_succ]
  refine wpX_take 2 (v := .int .i64 q.number) (oi := { dst := some 46, op := Op.load 3 (Operand.tmp 45), type := 3, pos := "wire.go:64", after := #[{ on := 1, ground := Ground.data }], guard := none }) (oL := oLWireReqP2) (clo_grown _) rfl rfl rfl (by kernel_rfl) (by kernel_rfl) (by kernel_rfl) (by kernel_rfl) (by kernel_rfl) (fun _ _ _ h => by cases h.1) (YG.val (by rfl) (fun u hu => by have c := rq_cell (R6.out.grown hu) HX.out 0; simp at c; go_simp)) ?_
  simp only [Act.put, List.setIfInBounds_toArray, List.set_cons_zero, List.set_cons_succ]
  refine wpX_take 3 (v := .int .u8 q.number) (oi := { dst := some 47, op := Op.convert 3 5 (Operand.tmp 46), type := 5, pos := "wire.go:64", after := #[{ on := 2, ground := Ground.data }], guard := none }) (oL := oLWireReqP2) (clo_grown _) rfl rfl rfl (by kernel_rfl) (by kernel_rfl) (by kernel_rfl) (by kernel_rfl) (by kernel_rfl) (fun _ _ _ h => by cases h.1) (YG.val (by rfl) (fun _ _ => by go_simp)) ?_
  simp only [Act.put, List.setIfInBounds_toArray, List.set_cons_zero, List.set_cons_succ]
  refine wpX_take 5 (v := .pointer (some ⟨bx, 18, none⟩)) (oi := { dst := some 49, op := Op.fieldAddr 43 (Operand.tmp 1) 3, type := 0, pos := "wire.go:64", after := #[], guard := none }) (oL := oLWireReqP2) (clo_grown _) rfl rfl rfl (by kernel_rfl) (by kernel_rfl) (by kernel_rfl) (by kernel_rfl) (by kernel_rfl) (fun _ _ _ h => by cases h.1) (YG.val (by rfl) (fun _ _ => by go_simp)) ?_
  simp only [Act.put, List.setIfInBounds_toArray, List.set_cons_zero, List.set_cons_succ]
  refine wpX_take 6 (v := .int .i64 (P : Int)) (oi := { dst := some 50, op := Op.load 3 (Operand.tmp 49), type := 3, pos := "wire.go:64", after := #[{ on := 5, ground := Ground.data }], guard := none }) (oL := oLWireReqP2) (clo_grown _) rfl rfl rfl (by kernel_rfl) (by kernel_rfl) (by kernel_rfl) (by kernel_rfl) (by kernel_rfl) (fun _ _ _ h => by cases h.1) (YG.val (by rfl) (fun u hu => by have c := rq_cell (R6.out.grown hu) HX.out 1; rw [HP.out] at c; simp at c; go_simp)) ?_
  simp only [Act.put, List.setIfInBounds_toArray, List.set_cons_zero, List.set_cons_succ]
  refine wpX_take 7 (v := .int .u32 (P : Int)) (oi := { dst := some 51, op := Op.convert 3 39 (Operand.tmp 50), type := 39, pos := "wire.go:64", after := #[{ on := 6, ground := Ground.data }], guard := none }) (oL := oLWireReqP2) (clo_grown _) rfl rfl rfl (by kernel_rfl) (by kernel_rfl) (by kernel_rfl) (by kernel_rfl) (by kernel_rfl) (fun _ _ _ h => by cases h.1) (YG.val (by rfl) (fun _ _ => by go_simp)) ?_
  simp only [Act.put, List.setIfInBounds_toArray, List.set_cons_zero, List.set_cons_succ]
  refine wpX_take 9 (v := .pointer (some ⟨bx, 19, none⟩)) (oi := { dst := some 53, op := Op.fieldAddr 43 (Operand.tmp 1) 4, type := 0, pos := "wire.go:64", after := #[], guard := none }) (oL := oLWireReqP2) (clo_grown _) rfl rfl rfl (by kernel_rfl) (by kernel_rfl) (by kernel_rfl) (by kernel_rfl) (by kernel_rfl) (fun _ _ _ h => by cases h.1) (YG.val (by rfl) (fun _ _ => by go_simp)) ?_
  simp only [Act.put, List.setIfInBounds_toArray, List.set_cons_zero, List.set_cons_succ]
  refine wpX_take 10 (v := .int .i64 (E : Int)) (oi := { dst := some 54, op := Op.load 3 (Operand.tmp 53), type := 3, pos := "wire.go:64", after := #[{ on := 9, ground := Ground.data }], guard := none }) (oL := oLWireReqP2) (clo_grown _) rfl rfl rfl (by kernel_rfl) (by kernel_rfl) (by kernel_rfl) (by kernel_rfl) (by kernel_rfl) (fun _ _ _ h => by cases h.1) (YG.val (by rfl) (fun u hu => by have c := rq_cell (R6.out.grown hu) HX.out 2; rw [HE.out] at c; simp at c; go_simp)) ?_
  simp only [Act.put, List.setIfInBounds_toArray, List.set_cons_zero, List.set_cons_succ]
  refine wpX_take 11 (v := .int .u32 (E : Int)) (oi := { dst := some 55, op := Op.convert 3 39 (Operand.tmp 54), type := 39, pos := "wire.go:64", after := #[{ on := 10, ground := Ground.data }], guard := none }) (oL := oLWireReqP2) (clo_grown _) rfl rfl rfl (by kernel_rfl) (by kernel_rfl) (by kernel_rfl) (by kernel_rfl) (by kernel_rfl) (fun _ _ _ h => by cases h.1) (YG.val (by rfl) (fun _ _ => by go_simp)) ?_
  simp only [Act.put, List.setIfInBounds_toArray, List.set_cons_zero, List.set_cons_succ]
  refine wpX_float 4 (oi := { dst := some 48, op := Op.buildSlice 24 1 #[(0, Operand.tmp 47)], type := 24, pos := "wire.go:64", after := #[{ on := 3, ground := Ground.data }], guard := none }) (v := fun b : Nat => .slice (some ⟨b, 0, none⟩) 1 1) (T := fun b u => Row u b 5 #[.int .u8 q.number]) (clo_grown _) rfl rfl (by kernel_rfl) (by kernel_rfl) (fun _ _ _ h => by cases h.1) (fun _ _ _ h g => h.grown g) ⟨by rfl, fun u hu => ⟨u.heap.size, u.alloc (.cells #[.int .u8 q.number] 5), by go_simp, World.grownBy_alloc _ _ _, heap_alloc_new u _⟩⟩ ?_
  refine wpZ_step 8 (o := { dst := some 52, op := Op.call { callee := Callee.value (Operand.func 24), args := #[Operand.tmp 51], argTypes := #[39] }, type := 24, pos := "wire.go:64", after := #[{ on := 7, ground := Ground.data }], guard := none }) rfl rfl rfl (by kernel_rfl) (by kernel_rfl) (by kernel_rfl) (by rfl) (fun u2 hS2 K hK => ?_)
  have HK := Lib.hid hK
  have HS := Lib.hid hS2
  clear hK hS2
  refine wp_call_op (f := 24) (args := #[.int .u32 (P : Int)]) (w1 := u2) (by go_simp) ((big32_e P (by omega) u2).mono ?_)
  rintro e v1 ⟨gp, rfl, ho, g⟩
  have Gv1 := Lib.hid (grownBy_trans HS.out g)
  have Zv1 := Lib.hid HS.out.size
  have Ogp := Lib.hid ho
  clear ho
  refine ⟨_, rfl, HK.out (fun u => v1.grownBy u none) _ _ g (World.grownBy.refl _ _) (fun u h => grownBy_trans Gv1.out h) (clo_grown v1) ?_⟩
  clear HK HS g
  simp only [Act.put, List.setIfInBounds_toArray, List.set_cons_zero, List.set_cons_succ]
  refine wpZ_step 12 (o := { dst := some 56, op := Op.call { callee := Callee.value (Operand.func 24), args := #[Operand.tmp 55], argTypes := #[39] }, type := 24, pos := "wire.go:64", after := #[{ on := 11, ground := Ground.data }, { on := 8, ground := Ground.chain }], guard := none }) rfl rfl rfl (by kernel_rfl) (by kernel_rfl) (by kernel_rfl) (by rfl) (fun u2 hS2 K hK => ?_)
  have HK := Lib.hid hK
  have HS := Lib.hid hS2
  clear hK hS2
  refine wp_call_op (f := 24) (args := #[.int .u32 (E : Int)]) (w1 := u2) (by go_simp) ((big32_e E (by omega) u2).mono ?_)
  rintro e v2 ⟨ge, rfl, ho, g⟩
  have Gv2 := Lib.hid (grownBy_trans HS.out g)
  have Zv2 := Lib.hid HS.out.size
  replace Ogp := Lib.hid (BOwn.grown Ogp.out (grownBy_trans HS.out g))
  have Oge := Lib.hid ho
  clear ho
  refine ⟨_, rfl, HK.out (fun u => v2.grownBy u none) _ _ g (World.grownBy.refl _ _) (fun u h => grownBy_trans Gv2.out h) (clo_grown v2) ?_⟩
  clear HK HS g
  simp only [Act.put, List.setIfInBounds_toArray, List.set_cons_zero, List.set_cons_succ]
  refine wpZ_end (by kernel_rfl) (fun bn => ?_)
  simp only [Act.put, List.setIfInBounds_toArray, List.set_cons_zero, List.set_cons_succ]
  refine wpX_step 13 (o := { dst := some 57, op := Op.buildSlice 52 4 #[(0, Operand.tmp 44), (1, Operand.tmp 48), (2, Operand.tmp 52), (3, Operand.tmp 56)], type := 52, pos := "wire.go:64", after := #[{ on := 0, ground := Ground.data }, { on := 4, ground := Ground.data }, { on := 8, ground := Ground.data }, { on := 12, ground := Ground.data }], guard := none }) rfl rfl (by kernel_rfl) (by rfl) (fun u2 hS2 K hK => ?_)
  have HK := Lib.hid hK
  have RN := Lib.hid hS2.2
  replace hS2 := hS2.1
  have HS := Lib.hid hS2
  clear hK hS2
  refine wp_val_op (v := .slice (some ⟨u2.heap.size, 0, none⟩) 4 4) (w1 := u2.alloc (.cells #[.slice aj mj cj, .slice (some ⟨bn, 0, none⟩) 1 1, .slice (some ⟨gp, 0, none⟩) 4 4, .slice (some ⟨ge, 0, none⟩) 4 4] 24)) (by go_simp) ?_
  obtain ⟨v3, hW⟩ : ∃ v3, v3 = u2.alloc (.cells #[.slice aj mj cj, .slice (some ⟨bn, 0, none⟩) 1 1, .slice (some ⟨gp, 0, none⟩) 4 4, .slice (some ⟨ge, 0, none⟩) 4 4] 24) := ⟨_, rfl⟩
  have g : u2.grownBy v3 none := hW ▸ World.grownBy_alloc _ _ _
  have hr : Row v3 u2.heap.size 24 #[.slice aj mj cj, .slice (some ⟨bn, 0, none⟩) 1 1, .slice (some ⟨gp, 0, none⟩) 4 4, .slice (some ⟨ge, 0, none⟩) 4 4] := hW ▸ heap_alloc_new u2 _
  rw [← hW]
  obtain ⟨b2, hb⟩ : ∃ b2, b2 = u2.heap.size := ⟨_, rfl⟩
  rw [← hb] at hr ⊢
  have Gv3 := Lib.hid (grownBy_trans HS.out g)
  have Zv3 := Lib.hid HS.out.size
  replace Ogp := Lib.hid (BOwn.grown Ogp.out (grownBy_trans HS.out g))
  replace Oge := Lib.hid (BOwn.grown Oge.out (grownBy_trans HS.out g))
  replace RN := Lib.hid (RN.out.grown g)
  have R2L := Lib.hid hr
  clear hr hb hW
  refine HK.out (fun u => v3.grownBy u none) _ _ (World.grownBy.refl _ _) (fun u h => ⟨grownBy_trans Gv3.out h, RN.out.grown h⟩) (clo_grown v3) ?_
  clear HK HS g
  simp only [Act.put, List.setIfInBounds_toArray, List.set_cons_zero, List.set_cons_succ]
  have hj : ∀ u, v3.grownBy u none → Calls Try.prog 23 #[.slice (some ⟨b2, 0, none⟩) 4 4] u fun e w' => ∃ a' m' c', e = .returned (.slice a' m' c') ∧ BOwn w' u.heap.size a' m' c' ([(UInt8.ofNat q.kind :: q.ix), [numB q.number], bigL 4 P, bigL 4 E] : List (List UInt8)).flatten ∧ u.grownBy w' none := fun u hu => by
    have hl : LLies u (some ⟨b2, 0, none⟩) [⟨aj, mj, cj⟩, ⟨some ⟨bn, 0, none⟩, 1, 1⟩, ⟨some ⟨gp, 0, none⟩, 4, 4⟩, ⟨some ⟨ge, 0, none⟩, 4, 4⟩] [(UInt8.ofNat q.kind :: q.ix), [numB q.number], bigL 4 P, bigL 4 E] := by
      refine row_llies (R2L.out.grown hu) rfl (fun i h h' => ?_)
      match i, h, h' with
      | 0, _, _ => exact ⟨(BOwn.grown HO6.out (grownBy_trans (grownBy_trans (grownBy_trans Gv1.out Gv2.out) Gv3.out) hu)).lies, OJL.out⟩
      | 1, _, _ => exact ⟨BRow.lies (t := 5) (by have e : rowB [numB q.number] = #[.int .u8 q.number] := (by unfold rowB; rw [List.map_singleton, HNV.out]); show Row _ _ _ (rowB [numB q.number]); rw [e]; exact RN.out.grown hu), rfl⟩
      | 2, _, _ => exact ⟨(BOwn.grown Ogp.out hu).lies, (bigL_length 4 P).symm⟩
      | 3, _, _ => exact ⟨(BOwn.grown Oge.out hu).lies, (bigL_length 4 E).symm⟩
    exact joinB_n (some ⟨b2, 0, none⟩) 4 4 _ _ u hl rfl (by simp [bigL_length, HX.out]) (by omega)
  have HJ := Lib.hid hj
  clear hj
  refine wpX_step 14 (o := { dst := some 58, op := Op.call { callee := Callee.value (Operand.func 23), args := #[Operand.tmp 57], argTypes := #[52] }, type := 24, pos := "wire.go:64", after := #[{ on := 13, ground := Ground.data }, { on := 12, ground := Ground.chain }], guard := none }) rfl rfl (by kernel_rfl) (by rfl) (fun u2 hS2 K hK => ?_)
  have HK := Lib.hid hK
  have HS := Lib.hid hS2
  clear hK hS2
  refine wp_call_op (f := 23) (args := #[.slice (some ⟨b2, 0, none⟩) 4 4]) (w1 := u2) (by go_simp) ((HJ.out u2 HS.out).mono ?_)
  rintro e v4 ⟨ak, mk, ck, rfl, ho, g⟩
  have Gv4 := Lib.hid (grownBy_trans HS.out g)
  have Zv4 := Lib.hid HS.out.size
  have OK2 := Lib.hid ho
  have ZK := Lib.hid (show w.heap.size ≤ u2.heap.size from Nat.le_trans HG6.out.size (Nat.le_trans (grownBy_trans (grownBy_trans Gv1.out Gv2.out) Gv3.out).size HS.out.size))
  clear ho
  refine ⟨_, rfl, HK.out (fun u => v4.grownBy u none) _ _ (World.grownBy.refl _ _) (fun u h => grownBy_trans Gv4.out h) (clo_grown v4) ?_⟩
  clear HK HS g
  simp only [Act.put, List.setIfInBounds_toArray, List.set_cons_zero, List.set_cons_succ]
  refine wpX_last (oL := { dst := some 4, op := Op.assign (Operand.tmp 58), type := 24, pos := "wire.go:64", after := #[{ on := 14, ground := Ground.data }, { on := 14, ground := Ground.chain }, { on := 0, ground := Ground.phase }, { on := 1, ground := Ground.phase }, { on := 2, ground := Ground.phase }, { on := 3, ground := Ground.phase }, { on := 4, ground := Ground.phase }, { on := 5, ground := Ground.phase }, { on := 6, ground := Ground.phase }, { on := 7, ground := Ground.phase }, { on := 8, ground := Ground.phase }, { on := 9, ground := Ground.phase }, { on := 10, ground := Ground.phase }, { on := 11, ground := Ground.phase }, { on := 12, ground := Ground.phase }, { on := 13, ground := Ground.phase }, { on := 14, ground := Ground.phase }], guard := none }) rfl (by kernel_rfl) (by kernel_rfl) (by rfl) (fun u4 hS4 K4 hK4 => ?_)
  refine wp_val_op (v := .slice ak mk ck) (w1 := u4) (by rfl) (hK4 _ _ ?_)
  simp only [Act.put, List.setIfInBounds_toArray, List.set_cons_zero, List.set_cons_succ]
  refine ⟨by first | rfl | trivial, ?_⟩
  obtain ⟨w9, h9⟩ : ∃ w9, w9 = u4 := ⟨_, rfl⟩
  rw [← h9] at hS4 ⊢
  have HO9 := Lib.hid (BOwn.mono (BOwn.grown OK2.out hS4) ZK.out)
  have HG9 := Lib.hid (grownBy_trans HG6.out (grownBy_trans (grownBy_trans (grownBy_trans (grownBy_trans Gv1.out Gv2.out) Gv3.out) Gv4.out) hS4))
  clear h9 hS4 hK4
  go_wp2_with fail
  go_ret2
  refine ⟨_, _, _, rfl, ?_, HG9.out⟩
  rw [show encQ q = ([(UInt8.ofNat q.kind :: q.ix), [numB q.number], bigL 4 P, bigL 4 E] : List (List UInt8)).flatten from by have h1 := HHK.out; unfold encQ; simp [h1, HPN.out, HEN.out]]
  exact HO9.out
set_option maxRecDepth 100000 in
set_option maxHeartbeats 4000000 in
theorem putReq_2 (q : Rq) (a : Option Addr) (n c : Nat) (w : World) (hx : q.ix.length = 16) (hk : q.kind < 256) (hbs : BLies w a q.bytes) (hn : q.bytes.length = n) (hok : LeaseOk q.who q.till) (hnm : n ≤ maxLen) (hmay : MayQ q) (hkk : q.kind = 2) :
    Calls Try.prog 15 #[.agg (rqC q (.slice a n c))] w fun e w' => ∃ a' n' c', e = .returned (.tuple #[.slice a' n' c', .int .i64 (putQE q)]) ∧ BOwn w' w.heap.size a' n' c' (putQL q) ∧ w.grownBy w' none := by
  have hL : putQL q = encQ q := if_pos hmay
  have hE : putQE q = 0 := if_pos hmay
  rw [hL, hE]
  have hd : decide (MayQ q) = true := decide_eq_true hmay
  have hma := fun W => mayAsk_n q a n c W hx hn hok hnm
  rw [hd] at hma
  have HMA := Lib.hid hma
  have HBS := Lib.hid hbs
  have HN := Lib.hid hn
  have HX := Lib.hid hx
  have HMAY := Lib.hid hmay
  clear hL hE hd hma hbs hn hx hmay hnm
  go_enter Try.func15, Try.ntmps15
  go_wp2_with (first
    | (refine wpList_boxed rfl rfl (rqC q (.slice a n c)) rfl ?_; intro wb hs g hr; have HG := Lib.hid g; have HB := Lib.hid (show Row wb w.heap.size 43 (rqC q (.slice a n c)) from hr); clear hs g hr)
    | (refine wpList_load_row rfl 43 _ rfl w.heap.size rfl 43 (rqC q (.slice a n c)) (0, 0) _ HB.out Try.underlying43 rfl (by rw [size_req]; exact congrArg some (rq_len q _ HX.out).symm) ?_))
  refine (HMA.out wb).mono ?_
  rintro e w1 ⟨rfl, g⟩
  have HG1 := Lib.hid (grownBy_trans HG.out g)
  have R1 := Lib.hid (HB.out.grown g)
  clear g HB HG
  obtain ⟨bx, hbx⟩ : ∃ bx, bx = w.heap.size := ⟨_, rfl⟩
  rw [← hbx] at R1 ⊢
  have HBX := Lib.hid hbx
  obtain ⟨KK, hK⟩ : ∃ KK : Int, (q.kind : Int) = KK := ⟨_, rfl⟩
  have HKq := Lib.hid hK
  have HBV := Lib.hid (show bval (UInt8.ofNat q.kind) = .int .u8 KK from by rw [bval_nat _ hk, hK])
  have HOK := Lib.hid hok
  clear hbx hok hk
  go_upto_region 3 with fail
  refine wp_normal ?_
  refine wp_regionX (fun u => w1.grownBy u none) 7 (by kernel_rfl) (grownBy_drewN w1 1 none) ?_
  refine wpX_take 0 (v := .pointer (some ⟨bx, 0, none⟩)) (oi := { dst := some 8, op := Op.fieldAddr 43 (Operand.tmp 1) 0, type := 0, pos := "wire.go:59", after := #[], guard := none }) (oL := oLWireReqP0) (clo_grown _) rfl rfl rfl (by kernel_rfl) (by kernel_rfl) (by kernel_rfl) (by kernel_rfl) (by kernel_rfl) (fun _ _ _ h => by cases h.1) (YG.val (by rfl) (fun _ _ => by go_simp)) ?_
  simp only [Act.put, List.setIfInBounds_toArray, List.set_cons_zero, List.set_cons_succ]
  refine wpX_take 1 (v := .int .u8 KK) (oi := { dst := some 9, op := Op.load 36 (Operand.tmp 8), type := 36, pos := "wire.go:59", after := #[{ on := 0, ground := Ground.data }], guard := none }) (oL := oLWireReqP0) (clo_grown _) rfl rfl rfl (by kernel_rfl) (by kernel_rfl) (by kernel_rfl) (by kernel_rfl) (by kernel_rfl) (fun _ _ _ h => by cases h.1) (YG.val (by rfl) (fun u hu => by have c := rq_kind (R1.out.grown hu); rw [HKq.out] at c; go_simp)) ?_
  simp only [Act.put, List.setIfInBounds_toArray, List.set_cons_zero, List.set_cons_succ]
  refine wpX_take 3 (v := .pointer (some ⟨bx, 1, none⟩)) (oi := { dst := some 11, op := Op.fieldAddr 43 (Operand.tmp 1) 1, type := 0, pos := "wire.go:59", after := #[], guard := none }) (oL := oLWireReqP0) (clo_grown _) rfl rfl rfl (by kernel_rfl) (by kernel_rfl) (by kernel_rfl) (by kernel_rfl) (by kernel_rfl) (fun _ _ _ h => by cases h.1) (YG.val (by rfl) (fun _ _ => by go_simp)) ?_
  simp only [Act.put, List.setIfInBounds_toArray, List.set_cons_zero, List.set_cons_succ]
  refine wpX_take 4 (v := .slice (some ⟨bx, 1, none⟩) 16 16) (oi := { dst := some 12, op := Op.slice 38 (Operand.tmp 11) none none none, type := 24, pos := "wire.go:59", after := #[{ on := 3, ground := Ground.data }], guard := none }) (oL := oLWireReqP0) (clo_grown _) rfl rfl rfl (by kernel_rfl) (by kernel_rfl) (by kernel_rfl) (by kernel_rfl) (by kernel_rfl) (fun _ _ _ h => by cases h.1) (YG.val (by rfl) (fun _ _ => by go_simp)) ?_
  simp only [Act.put, List.setIfInBounds_toArray, List.set_cons_zero, List.set_cons_succ]
  refine wpX_step 2 (o := { dst := some 10, op := Op.buildSlice 24 1 #[(0, Operand.tmp 9)], type := 24, pos := "wire.go:59", after := #[{ on := 1, ground := Ground.data }], guard := none }) rfl rfl (by kernel_rfl) (by rfl) (fun u2 hS2 K hK => ?_)
  have HK := Lib.hid hK
  have HS := Lib.hid hS2
  clear hK hS2
  refine wp_val_op (v := .slice (some ⟨u2.heap.size, 0, none⟩) 1 1) (w1 := u2.alloc (.cells #[.int .u8 KK] 5)) (by go_simp) ?_
  obtain ⟨w3, hW⟩ : ∃ w3, w3 = u2.alloc (.cells #[.int .u8 KK] 5) := ⟨_, rfl⟩
  have g : u2.grownBy w3 none := hW ▸ World.grownBy_alloc _ _ _
  have hr : Row w3 u2.heap.size 5 #[.int .u8 KK] := hW ▸ heap_alloc_new u2 _
  rw [← hW]
  obtain ⟨bk, hb⟩ : ∃ bk, bk = u2.heap.size := ⟨_, rfl⟩
  rw [← hb] at hr ⊢
  have Gw3 := Lib.hid (grownBy_trans HS.out g)
  have Zw3 := Lib.hid HS.out.size
  have RK := Lib.hid hr
  clear hr hb hW
  refine HK.out (fun u => w3.grownBy u none) _ _ (World.grownBy.refl _ _) (fun u h => grownBy_trans Gw3.out h) (clo_grown w3) ?_
  clear HK HS g
  simp only [Act.put, List.setIfInBounds_toArray, List.set_cons_zero, List.set_cons_succ]
  refine wpX_step 5 (o := { dst := some 13, op := Op.buildSlice 52 2 #[(0, Operand.tmp 10), (1, Operand.tmp 12)], type := 52, pos := "wire.go:59", after := #[{ on := 2, ground := Ground.data }, { on := 4, ground := Ground.data }], guard := none }) rfl rfl (by kernel_rfl) (by rfl) (fun u2 hS2 K hK => ?_)
  have HK := Lib.hid hK
  have HS := Lib.hid hS2
  clear hK hS2
  refine wp_val_op (v := .slice (some ⟨u2.heap.size, 0, none⟩) 2 2) (w1 := u2.alloc (.cells #[.slice (some ⟨bk, 0, none⟩) 1 1, .slice (some ⟨bx, 1, none⟩) 16 16] 24)) (by go_simp) ?_
  obtain ⟨w4, hW⟩ : ∃ w4, w4 = u2.alloc (.cells #[.slice (some ⟨bk, 0, none⟩) 1 1, .slice (some ⟨bx, 1, none⟩) 16 16] 24) := ⟨_, rfl⟩
  have g : u2.grownBy w4 none := hW ▸ World.grownBy_alloc _ _ _
  have hr : Row w4 u2.heap.size 24 #[.slice (some ⟨bk, 0, none⟩) 1 1, .slice (some ⟨bx, 1, none⟩) 16 16] := hW ▸ heap_alloc_new u2 _
  rw [← hW]
  obtain ⟨bl, hb⟩ : ∃ bl, bl = u2.heap.size := ⟨_, rfl⟩
  rw [← hb] at hr ⊢
  have Gw4 := Lib.hid (grownBy_trans HS.out g)
  have Zw4 := Lib.hid HS.out.size
  have RL := Lib.hid hr
  replace RK := Lib.hid (RK.out.grown (grownBy_trans HS.out g))
  clear hr hb hW
  refine HK.out (fun u => w4.grownBy u none) _ _ (World.grownBy.refl _ _) (fun u h => grownBy_trans Gw4.out h) (clo_grown w4) ?_
  clear HK HS g
  simp only [Act.put, List.setIfInBounds_toArray, List.set_cons_zero, List.set_cons_succ]
  have hj : ∀ u, w4.grownBy u none → Calls Try.prog 23 #[.slice (some ⟨bl, 0, none⟩) 2 2] u fun e w' => ∃ a' m' c', e = .returned (.slice a' m' c') ∧ BOwn w' u.heap.size a' m' c' (UInt8.ofNat q.kind :: q.ix) ∧ u.grownBy w' none := fun u hu => by
    have hl : LLies u (some ⟨bl, 0, none⟩) [⟨some ⟨bk, 0, none⟩, 1, 1⟩, ⟨some ⟨bx, 1, none⟩, 16, 16⟩] [[UInt8.ofNat q.kind], q.ix] := by
      refine row_llies (RL.out.grown hu) rfl (fun i h h' => ?_)
      match i, h, h' with
      | 0, _, _ =>
        refine ⟨BRow.lies (t := 5) ?_, rfl⟩
        have e : rowB [UInt8.ofNat q.kind] = #[.int .u8 KK] := by unfold rowB; rw [List.map_singleton, HBV.out]
        show Row _ _ _ (rowB [UInt8.ofNat q.kind])
        rw [e]
        exact RK.out.grown hu
      | 1, _, _ => exact ⟨rq_blies (R1.out.grown (grownBy_trans (grownBy_trans Gw3.out Gw4.out) hu)) HX.out, HX.out.symm⟩
    have h := joinB_n (some ⟨bl, 0, none⟩) 2 2 _ _ u hl rfl (by simp [HX.out]) (by omega)
    have e : ([[UInt8.ofNat q.kind], q.ix] : List (List UInt8)).flatten = UInt8.ofNat q.kind :: q.ix := by simp
    rw [e] at h
    exact h
  have HJ := Lib.hid hj
  clear hj
  refine wpX_step 6 (o := { dst := some 14, op := Op.call { callee := Callee.value (Operand.func 23), args := #[Operand.tmp 13], argTypes := #[52] }, type := 24, pos := "wire.go:59", after := #[{ on := 5, ground := Ground.data }], guard := none }) rfl rfl (by kernel_rfl) (by rfl) (fun u2 hS2 K hK => ?_)
  have HK := Lib.hid hK
  have HS := Lib.hid hS2
  clear hK hS2
  refine wp_call_op (f := 23) (args := #[.slice (some ⟨bl, 0, none⟩) 2 2]) (w1 := u2) (by go_simp) ((HJ.out u2 HS.out).mono ?_)
  rintro e w5 ⟨aj, mj, cj, rfl, ho, g⟩
  have Gw5 := Lib.hid (grownBy_trans HS.out g)
  have Zw5 := Lib.hid HS.out.size
  have OJ := Lib.hid ho
  have Z5 := Lib.hid (show w.heap.size ≤ u2.heap.size from Nat.le_trans HG1.out.size (Nat.le_trans (grownBy_trans Gw3.out Gw4.out).size HS.out.size))
  clear ho
  refine ⟨_, rfl, HK.out (fun u => w5.grownBy u none) _ _ (World.grownBy.refl _ _) (fun u h => grownBy_trans Gw5.out h) (clo_grown w5) ?_⟩
  clear HK HS g
  simp only [Act.put, List.setIfInBounds_toArray, List.set_cons_zero, List.set_cons_succ]
  refine wpX_last (oL := { dst := some 4, op := Op.assign (Operand.tmp 14), type := 24, pos := "wire.go:59", after := #[{ on := 6, ground := Ground.data }, { on := 6, ground := Ground.chain }, { on := 0, ground := Ground.phase }, { on := 1, ground := Ground.phase }, { on := 2, ground := Ground.phase }, { on := 3, ground := Ground.phase }, { on := 4, ground := Ground.phase }, { on := 5, ground := Ground.phase }, { on := 6, ground := Ground.phase }], guard := none }) rfl (by kernel_rfl) (by kernel_rfl) (by rfl) (fun u4 hS4 K4 hK4 => ?_)
  refine wp_val_op (v := .slice aj mj cj) (w1 := u4) (by rfl) (hK4 _ _ ?_)
  simp only [Act.put, List.setIfInBounds_toArray, List.set_cons_zero, List.set_cons_succ]
  refine ⟨by first | rfl | trivial, ?_⟩
  obtain ⟨w6, h6⟩ : ∃ w6, w6 = u4 := ⟨_, rfl⟩
  rw [← h6] at hS4 ⊢
  have HO6 := Lib.hid (BOwn.mono (BOwn.grown OJ.out hS4) Z5.out)
  have g16 : w1.grownBy w6 none := grownBy_trans (grownBy_trans (grownBy_trans Gw3.out Gw4.out) Gw5.out) hS4
  have HG6 := Lib.hid (grownBy_trans HG1.out g16)
  have R6 := Lib.hid (R1.out.grown g16)
  have hmj : mj = 17 := by have h := OJ.out.len; simp [HX.out] at h; omega
  have HM := Lib.hid hmj
  clear h6 hS4 hK4 g16 OJ Z5 Gw3 Gw4 Gw5 Zw3 Zw4 Zw5 RK RL HJ R1 HMA hmj
  have k6 : w6.cell? ⟨bx, 0, none⟩ = some (.int .u8 KK) := by have c := rq_kind R6.out; rw [HKq.out] at c; exact c
  have b2 : (KK == 2) = true := by rw [beq_iff_eq]; omega
  have b3 : (KK == 3) = false := by rw [beq_eq_false_iff_ne]; omega
  have b4 : (KK == 4) = false := by rw [beq_eq_false_iff_ne]; omega
  have b5 : (KK == 5) = false := by rw [beq_eq_false_iff_ne]; omega
  have HHK := Lib.hid hkk
  have OJL := Lib.hid (show mj = (UInt8.ofNat q.kind :: q.ix).length from by have h1 := HM.out; have h2 := HX.out; simp; omega)
  have HMQ := HMAY.out
  unfold MayQ at HMQ
  have hwho : q.who < 4294967296 := by have h := HOK.out; unfold LeaseOk at h; omega
  obtain ⟨T, hT⟩ : ∃ T : Nat, q.till = (T : Int) := ⟨q.till.toNat, by omega⟩
  have HT := Lib.hid hT
  have HTN := Lib.hid (show q.till.toNat = T by omega)
  have hTb : T ≤ 1099511627776 := by omega
  have hwT : IntKind.u64.wrap (T : Int) = (T : Int) := by rw [show IntKind.u64.wrap (T : Int) = (T : Int) % 18446744073709551616 from rfl]; omega
  have HNV := Lib.hid (bval_numB (x := q.number) (by omega) (by omega))
  have hwN : IntKind.u8.wrap q.number = q.number := by rw [show IntKind.u8.wrap q.number = q.number % 256 from rfl]; omega
  have hnb : n ≤ 33554432 := by have := HN.out; omega
  have hwL : IntKind.u32.wrap (n : Int) = (n : Int) := by rw [show IntKind.u32.wrap (n : Int) = (n : Int) % 4294967296 from rfl]; omega
  clear HMQ hT
  clear hkk hK
  go_upto_region 6 with fail
  refine wp_normal ?_
  refine wp_regionX (fun u => w6.grownBy u none) 23 (by kernel_rfl) (grownBy_drewN w6 1 none) ?_
  refine wpX_take 0 (v := .slice aj mj cj) (oi := { dst := some 19, op := Op.move (Operand.tmp 4), type := 24, pos := "wire.go:62", after := #[], guard := none }) (oL := oLWireReqP3) (clo_grown _) rfl rfl rfl (by kernel_rfl) (by kernel_rfl) (by kernel_rfl) (by kernel_rfl) (by kernel_rfl) (fun _ _ _ h => by cases h.1) (YG.val (by rfl) (fun _ _ => by go_simp)) ?_
  simp only [Act.put, List.setIfInBounds_toArray, List.set_cons_zero, List.set_cons_succ]
  refine wpX_take 1 (v := .pointer (some ⟨bx, 17, none⟩)) (oi := { dst := some 20, op := Op.fieldAddr 43 (Operand.tmp 1) 2, type := 0, pos := "wire.go:62", after := #[], guard := none }) (oL := oLWireReqP3) (clo_grown _) rfl rfl rfl (by kernel_rfl) (by kernel_rfl) (by kernel_rfl) (by kernel_rfl) (by kernel_rfl) (fun _ _ _ h => by cases h.1) (YG.val (by rfl) (fun _ _ => by go_simp)) ?_
  simp only [Act.put, List.setIfInBounds_toArray, List.set_cons_zero, List.set_cons_succ]
  refine wpX_take 2 (v := .int .i64 q.number) (oi := { dst := some 21, op := Op.load 3 (Operand.tmp 20), type := 3, pos := "wire.go:62", after := #[{ on := 1, ground := Ground.data }], guard := none }) (oL := oLWireReqP3) (clo_grown _) rfl rfl rfl (by kernel_rfl) (by kernel_rfl) (by kernel_rfl) (by kernel_rfl) (by kernel_rfl) (fun _ _ _ h => by cases h.1) (YG.val (by rfl) (fun u hu => by have c := rq_cell (R6.out.grown hu) HX.out 0; simp at c; go_simp)) ?_
  simp only [Act.put, List.setIfInBounds_toArray, List.set_cons_zero, List.set_cons_succ]
  refine wpX_take 3 (v := .int .u8 q.number) (oi := { dst := some 22, op := Op.convert 3 5 (Operand.tmp 21), type := 5, pos := "wire.go:62", after := #[{ on := 2, ground := Ground.data }], guard := none }) (oL := oLWireReqP3) (clo_grown _) rfl rfl rfl (by kernel_rfl) (by kernel_rfl) (by kernel_rfl) (by kernel_rfl) (by kernel_rfl) (fun _ _ _ h => by cases h.1) (YG.val (by rfl) (fun _ _ => by go_simp)) ?_
  simp only [Act.put, List.setIfInBounds_toArray, List.set_cons_zero, List.set_cons_succ]
  refine wpX_take 5 (v := .pointer (some ⟨bx, 20, none⟩)) (oi := { dst := some 24, op := Op.fieldAddr 43 (Operand.tmp 1) 5, type := 0, pos := "wire.go:62", after := #[], guard := none }) (oL := oLWireReqP3) (clo_grown _) rfl rfl rfl (by kernel_rfl) (by kernel_rfl) (by kernel_rfl) (by kernel_rfl) (by kernel_rfl) (fun _ _ _ h => by cases h.1) (YG.val (by rfl) (fun _ _ => by go_simp)) ?_
  simp only [Act.put, List.setIfInBounds_toArray, List.set_cons_zero, List.set_cons_succ]
  refine wpX_take 6 (v := .pointer (some ⟨bx, 20, none⟩)) (oi := { dst := some 25, op := Op.fieldAddr 41 (Operand.tmp 24) 0, type := 0, pos := "wire.go:62", after := #[{ on := 5, ground := Ground.data }], guard := none }) (oL := oLWireReqP3) (clo_grown _) rfl rfl rfl (by kernel_rfl) (by kernel_rfl) (by kernel_rfl) (by kernel_rfl) (by kernel_rfl) (fun _ _ _ h => by cases h.1) (YG.val (by rfl) (fun _ _ => by go_simp)) ?_
  simp only [Act.put, List.setIfInBounds_toArray, List.set_cons_zero, List.set_cons_succ]
  refine wpX_take 7 (v := .int .u32 (q.who : Int)) (oi := { dst := some 26, op := Op.load 39 (Operand.tmp 25), type := 39, pos := "wire.go:62", after := #[{ on := 6, ground := Ground.data }], guard := none }) (oL := oLWireReqP3) (clo_grown _) rfl rfl rfl (by kernel_rfl) (by kernel_rfl) (by kernel_rfl) (by kernel_rfl) (by kernel_rfl) (fun _ _ _ h => by cases h.1) (YG.val (by rfl) (fun u hu => by have c := rq_cell (R6.out.grown hu) HX.out 3; simp at c; go_simp)) ?_
  simp only [Act.put, List.setIfInBounds_toArray, List.set_cons_zero, List.set_cons_succ]
  refine wpX_take 9 (v := .pointer (some ⟨bx, 20, none⟩)) (oi := { dst := some 28, op := Op.fieldAddr 43 (Operand.tmp 1) 5, type := 0, pos := "wire.go:62", after := #[], guard := none }) (oL := oLWireReqP3) (clo_grown _) rfl rfl rfl (by kernel_rfl) (by kernel_rfl) (by kernel_rfl) (by kernel_rfl) (by kernel_rfl) (fun _ _ _ h => by cases h.1) (YG.val (by rfl) (fun _ _ => by go_simp)) ?_
  simp only [Act.put, List.setIfInBounds_toArray, List.set_cons_zero, List.set_cons_succ]
  refine wpX_take 10 (v := .pointer (some ⟨bx, 21, none⟩)) (oi := { dst := some 29, op := Op.fieldAddr 41 (Operand.tmp 28) 1, type := 0, pos := "wire.go:62", after := #[{ on := 9, ground := Ground.data }], guard := none }) (oL := oLWireReqP3) (clo_grown _) rfl rfl rfl (by kernel_rfl) (by kernel_rfl) (by kernel_rfl) (by kernel_rfl) (by kernel_rfl) (fun _ _ _ h => by cases h.1) (YG.val (by rfl) (fun _ _ => by go_simp)) ?_
  simp only [Act.put, List.setIfInBounds_toArray, List.set_cons_zero, List.set_cons_succ]
  refine wpX_take 11 (v := .int .i64 (T : Int)) (oi := { dst := some 30, op := Op.load 3 (Operand.tmp 29), type := 3, pos := "wire.go:62", after := #[{ on := 10, ground := Ground.data }], guard := none }) (oL := oLWireReqP3) (clo_grown _) rfl rfl rfl (by kernel_rfl) (by kernel_rfl) (by kernel_rfl) (by kernel_rfl) (by kernel_rfl) (fun _ _ _ h => by cases h.1) (YG.val (by rfl) (fun u hu => by have c := rq_cell (R6.out.grown hu) HX.out 4; rw [HT.out] at c; simp at c; go_simp)) ?_
  simp only [Act.put, List.setIfInBounds_toArray, List.set_cons_zero, List.set_cons_succ]
  refine wpX_take 12 (v := .int .u64 (T : Int)) (oi := { dst := some 31, op := Op.convert 3 87 (Operand.tmp 30), type := 87, pos := "wire.go:62", after := #[{ on := 11, ground := Ground.data }], guard := none }) (oL := oLWireReqP3) (clo_grown _) rfl rfl rfl (by kernel_rfl) (by kernel_rfl) (by kernel_rfl) (by kernel_rfl) (by kernel_rfl) (fun _ _ _ h => by cases h.1) (YG.val (by rfl) (fun _ _ => by go_simp)) ?_
  simp only [Act.put, List.setIfInBounds_toArray, List.set_cons_zero, List.set_cons_succ]
  refine wpX_take 14 (v := .pointer (some ⟨bx, 22, none⟩)) (oi := { dst := some 33, op := Op.fieldAddr 43 (Operand.tmp 1) 6, type := 0, pos := "wire.go:62", after := #[], guard := none }) (oL := oLWireReqP3) (clo_grown _) rfl rfl rfl (by kernel_rfl) (by kernel_rfl) (by kernel_rfl) (by kernel_rfl) (by kernel_rfl) (fun _ _ _ h => by cases h.1) (YG.val (by rfl) (fun _ _ => by go_simp)) ?_
  simp only [Act.put, List.setIfInBounds_toArray, List.set_cons_zero, List.set_cons_succ]
  refine wpX_take 15 (v := .slice a n c) (oi := { dst := some 34, op := Op.load 24 (Operand.tmp 33), type := 24, pos := "wire.go:62", after := #[{ on := 14, ground := Ground.data }], guard := none }) (oL := oLWireReqP3) (clo_grown _) rfl rfl rfl (by kernel_rfl) (by kernel_rfl) (by kernel_rfl) (by kernel_rfl) (by kernel_rfl) (fun _ _ _ h => by cases h.1) (YG.val (by rfl) (fun u hu => by have c := rq_cell (R6.out.grown hu) HX.out 5; simp at c; go_simp)) ?_
  simp only [Act.put, List.setIfInBounds_toArray, List.set_cons_zero, List.set_cons_succ]
  refine wpX_take 16 (v := .int .i64 (n : Int)) (oi := { dst := some 35, op := Op.call { callee := Callee.builtin Builtin.len, args := #[Operand.tmp 34], argTypes := #[24] }, type := 3, pos := "wire.go:62", after := #[{ on := 15, ground := Ground.data }], guard := none }) (oL := oLWireReqP3) (clo_grown _) rfl rfl rfl (by kernel_rfl) (by kernel_rfl) (by kernel_rfl) (by kernel_rfl) (by kernel_rfl) (fun _ _ _ h => by cases h.1) (YG.val (by rfl) (fun _ _ => by go_simp)) ?_
  simp only [Act.put, List.setIfInBounds_toArray, List.set_cons_zero, List.set_cons_succ]
  refine wpX_take 17 (v := .int .u32 (n : Int)) (oi := { dst := some 36, op := Op.convert 3 39 (Operand.tmp 35), type := 39, pos := "wire.go:62", after := #[{ on := 16, ground := Ground.data }], guard := none }) (oL := oLWireReqP3) (clo_grown _) rfl rfl rfl (by kernel_rfl) (by kernel_rfl) (by kernel_rfl) (by kernel_rfl) (by kernel_rfl) (fun _ _ _ h => by cases h.1) (YG.val (by rfl) (fun _ _ => by go_simp)) ?_
  simp only [Act.put, List.setIfInBounds_toArray, List.set_cons_zero, List.set_cons_succ]
  refine wpX_take 19 (v := .pointer (some ⟨bx, 22, none⟩)) (oi := { dst := some 38, op := Op.fieldAddr 43 (Operand.tmp 1) 6, type := 0, pos := "wire.go:62", after := #[], guard := none }) (oL := oLWireReqP3) (clo_grown _) rfl rfl rfl (by kernel_rfl) (by kernel_rfl) (by kernel_rfl) (by kernel_rfl) (by kernel_rfl) (fun _ _ _ h => by cases h.1) (YG.val (by rfl) (fun _ _ => by go_simp)) ?_
  simp only [Act.put, List.setIfInBounds_toArray, List.set_cons_zero, List.set_cons_succ]
  refine wpX_take 20 (v := .slice a n c) (oi := { dst := some 39, op := Op.load 24 (Operand.tmp 38), type := 24, pos := "wire.go:62", after := #[{ on := 19, ground := Ground.data }], guard := none }) (oL := oLWireReqP3) (clo_grown _) rfl rfl rfl (by kernel_rfl) (by kernel_rfl) (by kernel_rfl) (by kernel_rfl) (by kernel_rfl) (fun _ _ _ h => by cases h.1) (YG.val (by rfl) (fun u hu => by have c := rq_cell (R6.out.grown hu) HX.out 5; simp at c; go_simp)) ?_
  simp only [Act.put, List.setIfInBounds_toArray, List.set_cons_zero, List.set_cons_succ]
  refine wpX_float 4 (oi := { dst := some 23, op := Op.buildSlice 24 1 #[(0, Operand.tmp 22)], type := 24, pos := "wire.go:62", after := #[{ on := 3, ground := Ground.data }], guard := none }) (v := fun b : Nat => .slice (some ⟨b, 0, none⟩) 1 1) (T := fun b u => Row u b 5 #[.int .u8 q.number]) (clo_grown _) rfl rfl (by kernel_rfl) (by kernel_rfl) (fun _ _ _ h => by cases h.1) (fun _ _ _ h g => h.grown g) ⟨by rfl, fun u hu => ⟨u.heap.size, u.alloc (.cells #[.int .u8 q.number] 5), by go_simp, World.grownBy_alloc _ _ _, heap_alloc_new u _⟩⟩ ?_
  refine wpZ_step 8 (o := { dst := some 27, op := Op.call { callee := Callee.value (Operand.func 24), args := #[Operand.tmp 26], argTypes := #[39] }, type := 24, pos := "wire.go:62", after := #[{ on := 7, ground := Ground.data }], guard := none }) rfl rfl rfl (by kernel_rfl) (by kernel_rfl) (by kernel_rfl) (by rfl) (fun u2 hS2 K hK => ?_)
  have HK := Lib.hid hK
  have HS := Lib.hid hS2
  clear hK hS2
  refine wp_call_op (f := 24) (args := #[.int .u32 (q.who : Int)]) (w1 := u2) (by go_simp) ((big32_e q.who (hwho) u2).mono ?_)
  rintro e v1 ⟨gw, rfl, ho, g⟩
  have Gv1 := Lib.hid (grownBy_trans HS.out g)
  have Zv1 := Lib.hid HS.out.size
  have Ogw := Lib.hid ho
  clear ho
  refine ⟨_, rfl, HK.out (fun u => v1.grownBy u none) _ _ g (World.grownBy.refl _ _) (fun u h => grownBy_trans Gv1.out h) (clo_grown v1) ?_⟩
  clear HK HS g
  simp only [Act.put, List.setIfInBounds_toArray, List.set_cons_zero, List.set_cons_succ]
  refine wpZ_step 13 (o := { dst := some 32, op := Op.call { callee := Callee.value (Operand.func 33), args := #[Operand.tmp 31], argTypes := #[87] }, type := 24, pos := "wire.go:62", after := #[{ on := 12, ground := Ground.data }, { on := 8, ground := Ground.chain }], guard := none }) rfl rfl rfl (by kernel_rfl) (by kernel_rfl) (by kernel_rfl) (by rfl) (fun u2 hS2 K hK => ?_)
  have HK := Lib.hid hK
  have HS := Lib.hid hS2
  clear hK hS2
  refine wp_call_op (f := 33) (args := #[.int .u64 (T : Int)]) (w1 := u2) (by go_simp) ((big64_e T (by omega) u2).mono ?_)
  rintro e v2 ⟨gt, rfl, ho, g⟩
  have Gv2 := Lib.hid (grownBy_trans HS.out g)
  have Zv2 := Lib.hid HS.out.size
  replace Ogw := Lib.hid (BOwn.grown Ogw.out (grownBy_trans HS.out g))
  have Ogt := Lib.hid ho
  clear ho
  refine ⟨_, rfl, HK.out (fun u => v2.grownBy u none) _ _ g (World.grownBy.refl _ _) (fun u h => grownBy_trans Gv2.out h) (clo_grown v2) ?_⟩
  clear HK HS g
  simp only [Act.put, List.setIfInBounds_toArray, List.set_cons_zero, List.set_cons_succ]
  refine wpZ_step 18 (o := { dst := some 37, op := Op.call { callee := Callee.value (Operand.func 24), args := #[Operand.tmp 36], argTypes := #[39] }, type := 24, pos := "wire.go:62", after := #[{ on := 17, ground := Ground.data }, { on := 13, ground := Ground.chain }], guard := none }) rfl rfl rfl (by kernel_rfl) (by kernel_rfl) (by kernel_rfl) (by rfl) (fun u2 hS2 K hK => ?_)
  have HK := Lib.hid hK
  have HS := Lib.hid hS2
  clear hK hS2
  refine wp_call_op (f := 24) (args := #[.int .u32 (n : Int)]) (w1 := u2) (by go_simp) ((big32_e n (by omega) u2).mono ?_)
  rintro e v3 ⟨gl, rfl, ho, g⟩
  have Gv3 := Lib.hid (grownBy_trans HS.out g)
  have Zv3 := Lib.hid HS.out.size
  replace Ogw := Lib.hid (BOwn.grown Ogw.out (grownBy_trans HS.out g))
  replace Ogt := Lib.hid (BOwn.grown Ogt.out (grownBy_trans HS.out g))
  have Ogl := Lib.hid ho
  clear ho
  refine ⟨_, rfl, HK.out (fun u => v3.grownBy u none) _ _ g (World.grownBy.refl _ _) (fun u h => grownBy_trans Gv3.out h) (clo_grown v3) ?_⟩
  clear HK HS g
  simp only [Act.put, List.setIfInBounds_toArray, List.set_cons_zero, List.set_cons_succ]
  refine wpZ_end (by kernel_rfl) (fun bn => ?_)
  simp only [Act.put, List.setIfInBounds_toArray, List.set_cons_zero, List.set_cons_succ]
  refine wpX_step 21 (o := { dst := some 40, op := Op.buildSlice 52 6 #[(0, Operand.tmp 19), (1, Operand.tmp 23), (2, Operand.tmp 27), (3, Operand.tmp 32), (4, Operand.tmp 37), (5, Operand.tmp 39)], type := 52, pos := "wire.go:62", after := #[{ on := 0, ground := Ground.data }, { on := 4, ground := Ground.data }, { on := 8, ground := Ground.data }, { on := 13, ground := Ground.data }, { on := 18, ground := Ground.data }, { on := 20, ground := Ground.data }], guard := none }) rfl rfl (by kernel_rfl) (by rfl) (fun u2 hS2 K hK => ?_)
  have HK := Lib.hid hK
  have RN := Lib.hid hS2.2
  replace hS2 := hS2.1
  have HS := Lib.hid hS2
  clear hK hS2
  refine wp_val_op (v := .slice (some ⟨u2.heap.size, 0, none⟩) 6 6) (w1 := u2.alloc (.cells #[.slice aj mj cj, .slice (some ⟨bn, 0, none⟩) 1 1, .slice (some ⟨gw, 0, none⟩) 4 4, .slice (some ⟨gt, 0, none⟩) 8 8, .slice (some ⟨gl, 0, none⟩) 4 4, .slice a n c] 24)) (by go_simp) ?_
  obtain ⟨v4, hW⟩ : ∃ v4, v4 = u2.alloc (.cells #[.slice aj mj cj, .slice (some ⟨bn, 0, none⟩) 1 1, .slice (some ⟨gw, 0, none⟩) 4 4, .slice (some ⟨gt, 0, none⟩) 8 8, .slice (some ⟨gl, 0, none⟩) 4 4, .slice a n c] 24) := ⟨_, rfl⟩
  have g : u2.grownBy v4 none := hW ▸ World.grownBy_alloc _ _ _
  have hr : Row v4 u2.heap.size 24 #[.slice aj mj cj, .slice (some ⟨bn, 0, none⟩) 1 1, .slice (some ⟨gw, 0, none⟩) 4 4, .slice (some ⟨gt, 0, none⟩) 8 8, .slice (some ⟨gl, 0, none⟩) 4 4, .slice a n c] := hW ▸ heap_alloc_new u2 _
  rw [← hW]
  obtain ⟨b2, hb⟩ : ∃ b2, b2 = u2.heap.size := ⟨_, rfl⟩
  rw [← hb] at hr ⊢
  have Gv4 := Lib.hid (grownBy_trans HS.out g)
  have Zv4 := Lib.hid HS.out.size
  replace Ogw := Lib.hid (BOwn.grown Ogw.out (grownBy_trans HS.out g))
  replace Ogt := Lib.hid (BOwn.grown Ogt.out (grownBy_trans HS.out g))
  replace Ogl := Lib.hid (BOwn.grown Ogl.out (grownBy_trans HS.out g))
  replace RN := Lib.hid (RN.out.grown g)
  have R2L := Lib.hid hr
  clear hr hb hW
  refine HK.out (fun u => v4.grownBy u none) _ _ (World.grownBy.refl _ _) (fun u h => ⟨grownBy_trans Gv4.out h, RN.out.grown h⟩) (clo_grown v4) ?_
  clear HK HS g
  simp only [Act.put, List.setIfInBounds_toArray, List.set_cons_zero, List.set_cons_succ]
  have hj : ∀ u, v4.grownBy u none → Calls Try.prog 23 #[.slice (some ⟨b2, 0, none⟩) 6 6] u fun e w' => ∃ a' m' c', e = .returned (.slice a' m' c') ∧ BOwn w' u.heap.size a' m' c' ([(UInt8.ofNat q.kind :: q.ix), [numB q.number], bigL 4 q.who, bigL 8 T, bigL 4 n, q.bytes] : List (List UInt8)).flatten ∧ u.grownBy w' none := fun u hu => by
    have hl : LLies u (some ⟨b2, 0, none⟩) [⟨aj, mj, cj⟩, ⟨some ⟨bn, 0, none⟩, 1, 1⟩, ⟨some ⟨gw, 0, none⟩, 4, 4⟩, ⟨some ⟨gt, 0, none⟩, 8, 8⟩, ⟨some ⟨gl, 0, none⟩, 4, 4⟩, ⟨a, n, c⟩] [(UInt8.ofNat q.kind :: q.ix), [numB q.number], bigL 4 q.who, bigL 8 T, bigL 4 n, q.bytes] := by
      refine row_llies (R2L.out.grown hu) rfl (fun i h h' => ?_)
      match i, h, h' with
      | 0, _, _ => exact ⟨(BOwn.grown HO6.out (grownBy_trans (grownBy_trans (grownBy_trans (grownBy_trans Gv1.out Gv2.out) Gv3.out) Gv4.out) hu)).lies, OJL.out⟩
      | 1, _, _ => exact ⟨BRow.lies (t := 5) (by have e : rowB [numB q.number] = #[.int .u8 q.number] := (by unfold rowB; rw [List.map_singleton, HNV.out]); show Row _ _ _ (rowB [numB q.number]); rw [e]; exact RN.out.grown hu), rfl⟩
      | 2, _, _ => exact ⟨(BOwn.grown Ogw.out hu).lies, (bigL_length 4 q.who).symm⟩
      | 3, _, _ => exact ⟨(BOwn.grown Ogt.out hu).lies, (bigL_length 8 T).symm⟩
      | 4, _, _ => exact ⟨(BOwn.grown Ogl.out hu).lies, (bigL_length 4 n).symm⟩
      | 5, _, _ => exact ⟨HBS.out.grown (grownBy_trans HG6.out (grownBy_trans (grownBy_trans (grownBy_trans (grownBy_trans Gv1.out Gv2.out) Gv3.out) Gv4.out) hu)), HN.out.symm⟩
    exact joinB_n (some ⟨b2, 0, none⟩) 6 6 _ _ u hl rfl (by simp [bigL_length, HX.out]; have := HN.out; omega) (by omega)
  have HJ := Lib.hid hj
  clear hj
  refine wpX_step 22 (o := { dst := some 41, op := Op.call { callee := Callee.value (Operand.func 23), args := #[Operand.tmp 40], argTypes := #[52] }, type := 24, pos := "wire.go:62", after := #[{ on := 21, ground := Ground.data }, { on := 18, ground := Ground.chain }], guard := none }) rfl rfl (by kernel_rfl) (by rfl) (fun u2 hS2 K hK => ?_)
  have HK := Lib.hid hK
  have HS := Lib.hid hS2
  clear hK hS2
  refine wp_call_op (f := 23) (args := #[.slice (some ⟨b2, 0, none⟩) 6 6]) (w1 := u2) (by go_simp) ((HJ.out u2 HS.out).mono ?_)
  rintro e v5 ⟨ak, mk, ck, rfl, ho, g⟩
  have Gv5 := Lib.hid (grownBy_trans HS.out g)
  have Zv5 := Lib.hid HS.out.size
  have OK2 := Lib.hid ho
  have ZK := Lib.hid (show w.heap.size ≤ u2.heap.size from Nat.le_trans HG6.out.size (Nat.le_trans (grownBy_trans (grownBy_trans (grownBy_trans Gv1.out Gv2.out) Gv3.out) Gv4.out).size HS.out.size))
  clear ho
  refine ⟨_, rfl, HK.out (fun u => v5.grownBy u none) _ _ (World.grownBy.refl _ _) (fun u h => grownBy_trans Gv5.out h) (clo_grown v5) ?_⟩
  clear HK HS g
  simp only [Act.put, List.setIfInBounds_toArray, List.set_cons_zero, List.set_cons_succ]
  refine wpX_last (oL := { dst := some 4, op := Op.assign (Operand.tmp 41), type := 24, pos := "wire.go:62", after := #[{ on := 22, ground := Ground.data }, { on := 22, ground := Ground.chain }, { on := 0, ground := Ground.phase }, { on := 1, ground := Ground.phase }, { on := 2, ground := Ground.phase }, { on := 3, ground := Ground.phase }, { on := 4, ground := Ground.phase }, { on := 5, ground := Ground.phase }, { on := 6, ground := Ground.phase }, { on := 7, ground := Ground.phase }, { on := 8, ground := Ground.phase }, { on := 9, ground := Ground.phase }, { on := 10, ground := Ground.phase }, { on := 11, ground := Ground.phase }, { on := 12, ground := Ground.phase }, { on := 13, ground := Ground.phase }, { on := 14, ground := Ground.phase }, { on := 15, ground := Ground.phase }, { on := 16, ground := Ground.phase }, { on := 17, ground := Ground.phase }, { on := 18, ground := Ground.phase }, { on := 19, ground := Ground.phase }, { on := 20, ground := Ground.phase }, { on := 21, ground := Ground.phase }, { on := 22, ground := Ground.phase }], guard := none }) rfl (by kernel_rfl) (by kernel_rfl) (by rfl) (fun u4 hS4 K4 hK4 => ?_)
  refine wp_val_op (v := .slice ak mk ck) (w1 := u4) (by rfl) (hK4 _ _ ?_)
  simp only [Act.put, List.setIfInBounds_toArray, List.set_cons_zero, List.set_cons_succ]
  refine ⟨by first | rfl | trivial, ?_⟩
  obtain ⟨w9, h9⟩ : ∃ w9, w9 = u4 := ⟨_, rfl⟩
  rw [← h9] at hS4 ⊢
  have HO9 := Lib.hid (BOwn.mono (BOwn.grown OK2.out hS4) ZK.out)
  have HG9 := Lib.hid (grownBy_trans HG6.out (grownBy_trans (grownBy_trans (grownBy_trans (grownBy_trans (grownBy_trans Gv1.out Gv2.out) Gv3.out) Gv4.out) Gv5.out) hS4))
  clear h9 hS4 hK4
  go_wp2_with fail
  go_ret2
  refine ⟨_, _, _, rfl, ?_, HG9.out⟩
  rw [show encQ q = ([(UInt8.ofNat q.kind :: q.ix), [numB q.number], bigL 4 q.who, bigL 8 T, bigL 4 n, q.bytes] : List (List UInt8)).flatten from by have h1 := HHK.out; unfold encQ; simp [h1, HTN.out, HN.out]]
  exact HO9.out
theorem putReq_n (q : Rq) (a : Option Addr) (n c : Nat) (w : World) (hx : q.ix.length = 16) (hk : q.kind < 256) (hbs : BLies w a q.bytes) (hn : q.bytes.length = n) (hok : LeaseOk q.who q.till) (hnm : n ≤ maxLen) :
    Calls Try.prog 15 #[.agg (rqC q (.slice a n c))] w fun e w' => ∃ a' n' c', e = .returned (.tuple #[.slice a' n' c', .int .i64 (putQE q)]) ∧ BOwn w' w.heap.size a' n' c' (putQL q) ∧ w.grownBy w' none := by
  by_cases hmay : MayQ q
  · have hm := hmay
    unfold MayQ at hm
    by_cases h1 : q.kind = 1
    · exact putReq_1 q a n c w hx hk hbs hn hok hnm hmay h1
    by_cases h2 : q.kind = 2
    · exact putReq_2 q a n c w hx hk hbs hn hok hnm hmay h2
    by_cases h3 : q.kind = 3
    · exact putReq_3 q a n c w hx hk hbs hn hok hnm hmay h3
    by_cases h4 : q.kind = 4
    · exact putReq_4 q a n c w hx hk hbs hn hok hnm hmay h4
    exact putReq_5 q a n c w hx hk hbs hn hok hnm hmay (by omega)
  · exact putReq_no q a n c w hx hk hbs hn hok hnm hmay
end Go.Proofs.Ytkdmebcfedehiaa
