/- Helpers and contracts of the proofs over this seat: EqArr, EqLease, Used, UsedN, MayMath, MayAsk, ReqRd, RegZ. Each states what a function of the program answers, or is plain Lean; its conditions stand in each statement. -/
import Derived.DeepKeys
import Derived.OpenShut
import Derived.Test.YtkdmebcfedehiaaPtAA
import Derived.Test.YtkdmebcfedehiaaPtAB
import Derived.Test.YtkdmebcfedehiaaPtAC
import Derived.Test.YtkdmebcfedehiaaPtAD
import Derived.Test.YtkdmebcfedehiaaPtAE
import Derived.Test.YtkdmebcfedehiaaPtAF
set_option linter.unusedVariables false
/- Arrays of bytes (and arrays of such) are compared cell by cell. No walk. -/
namespace Go.Proofs.Ytkdmebcfedehiaa
open Go.RowKit

def litB (x : UInt8) : Lit := .int .u8 (x.toNat : Int)
theorem litB_inj {a b : List UInt8} : a.map litB = b.map litB ↔ a = b := by
  constructor
  · intro h
    induction a generalizing b with
    | nil => cases b <;> simp_all
    | cons x a ih =>
      cases b with
      | nil => simp at h
      | cons y b =>
        simp only [List.map_cons, List.cons.injEq] at h
        obtain ⟨h1, h2⟩ := h
        unfold litB at h1
        injection h1 with _ h1
        have hxy : x = y := UInt8.toNat_inj.1 (by omega)
        rw [ih h2, hxy]
  · rintro rfl; rfl

theorem mapM_some {α β : Type} (f : α → Option β) (g : α → β) : ∀ (xs : List α), (∀ x ∈ xs, f x = some (g x)) → xs.mapM f = some (xs.map g)
  | [], _ => rfl
  | x :: xs, h => by
    rw [List.mapM_cons, h x (by simp), mapM_some f g xs (fun y hy => h y (by simp [hy]))]
    rfl

theorem flatten_parts {α : Type} (k : Nat) : ∀ (n : Nat) (L : List α), L.length = n * k → ((List.range n).map fun i => (L.drop (i * k)).take k).flatten = L
  | 0, L, h => by simp at h; simp [h]
  | n + 1, L, h => by
    rw [List.range_succ_eq_map, List.map_cons, List.flatten_cons, List.map_map]
    have e : ((List.range n).map ((fun i => (L.drop (i * k)).take k) ∘ Nat.succ)) = (List.range n).map fun i => ((L.drop k).drop (i * k)).take k := by
      apply List.map_congr_left
      intro i _
      simp only [Function.comp, List.drop_drop, Nat.succ_eq_add_one, Nat.add_mul, Nat.one_mul]
      rw [Nat.add_comm]
    rw [e, flatten_parts k n (L.drop k) (by rw [List.length_drop, h, Nat.add_mul]; omega)]
    simp

section
variable {P : Program}
theorem lits_arr {t e : TypeId} {n k D : Nat} (hu : P.underlying t = some (.array n e)) (hc : P.cellsOf t = n * k) (he : P.cellsOf e = k) (l : List UInt8) (hl : l.length = n * k)
    (h : ∀ m : List UInt8, m.length = k → P.keyLits D e (m.map bval) = some (m.map litB)) : P.keyLits (D + 1) t (l.map bval) = some (l.map litB) := by
  unfold Program.keyLits
  rw [hu]
  show (if (l.map bval).length = P.cellsOf t then Option.map List.flatten (List.mapM (fun i => P.keyLits D e (List.take (P.cellsOf e) (List.drop (i * P.cellsOf e) (l.map bval)))) (List.range n)) else none) = _
  rw [he, hc]
  simp only [List.length_map, hl, if_true]
  rw [mapM_some _ (fun i => ((l.map litB).drop (i * k)).take k)]
  · rw [Option.map_some, flatten_parts k n _ (by rw [List.length_map, hl])]
  · intro i hi
    have hi' : i < n := by simpa using hi
    rw [← List.map_drop, ← List.map_take, ← List.map_drop, ← List.map_take]
    refine h _ ?_
    rw [List.length_take, List.length_drop, hl]
    have : (i + 1) * k ≤ n * k := Nat.mul_le_mul_right k hi'
    rw [Nat.add_mul] at this
    omega

theorem lits_byte {e : TypeId} {D : Nat} (hu : P.underlying e = some (.int .u8)) (m : List UInt8) (hm : m.length = 1) : P.keyLits (D + 1) e (m.map bval) = some (m.map litB) := by
  obtain ⟨x, rfl⟩ : ∃ x, m = [x] := by
    match m, hm with
    | [x], _ => exact ⟨x, rfl⟩
  have := x.toNat_lt
  unfold Program.keyLits
  rw [hu]
  have hw : (Lit.int .u8 (x.toNat : Int)).wf = true := by simp [Lit.wf, show IntKind.u8.min = 0 from rfl, show IntKind.u8.max = 255 from rfl]; omega
  simp [bval, litB, hw]

theorem eql_lits {t : TypeId} {m D : Nat} (hm : m ≤ 10000) (hk : P.keyTypeAt m t = true) {l r : List UInt8} (fl : (Value.agg (l.map bval).toArray).formed P t = true) (fr : (Value.agg (r.map bval).toArray).formed P t = true)
    (hl : P.keyLits D t (l.map bval) = some (l.map litB)) (hr : P.keyLits D t (r.map bval) = some (r.map litB)) (w : World) :
    (binOp .eql t (.agg (l.map bval).toArray) (.agg (r.map bval).toArray)).run P w = .ok (.bool (decide (l = r))) w ∧ (binOp .neq t (.agg (l.map bval).toArray) (.agg (r.map bval).toArray)).run P w = .ok (.bool (!decide (l = r))) w := by
  obtain ⟨b, hb, hiff⟩ := run_equalIn_deep (P := P) (10000 - m) m t hk w D D _ _ _ _ fl fr (by simpa [Value.cells] using hl) (by simpa [Value.cells] using hr)
  rw [show 10000 - m + m = 10000 by omega] at hb
  have e : b = decide (l = r) := by
    rw [litB_inj] at hiff
    by_cases h : l = r
    · simp [h, hiff.2 h]
    · have : b = false := by
        cases b
        · rfl
        · exact absurd (hiff.1 rfl) h
      simp [h, this]
  rw [run_eql_struct, run_neq_struct, hb, e]
  exact ⟨rfl, rfl⟩
end

end Go.Proofs.Ytkdmebcfedehiaa
/- api.Lease: two cells, compared by == and !=. -/
namespace Go.Proofs.Ytkdmebcfedehiaa
open Go.RowKit
def leaseV (a b : Int) : Value := .agg #[.int .u32 a, .int .i64 b]
def LeaseOk (a b : Int) : Prop := 0 ≤ a ∧ a < 4294967296 ∧ -9223372036854775808 ≤ b ∧ b ≤ 9223372036854775807
set_option maxRecDepth 100000 in
theorem lits_lease {a b : Int} (h : LeaseOk a b) : Try.prog.keyLits 3 41 [.int .u32 a, .int .i64 b] = some [.int .u32 a, .int .i64 b] := by
  obtain ⟨h1, h2, h3, h4⟩ := h
  have w1 : (Lit.int .u32 a).wf = true := by simp [Lit.wf, show IntKind.u32.min = 0 from rfl, show IntKind.u32.max = 4294967295 from rfl]; omega
  have w2 : (Lit.int .i64 b).wf = true := by simp [Lit.wf, show IntKind.i64.min = -9223372036854775808 from rfl, show IntKind.i64.max = 9223372036854775807 from rfl]; omega
  have e1 : Try.prog.keyLits 2 39 [.int .u32 a] = some [.int .u32 a] := by
    unfold Program.keyLits
    rw [Try.underlying39]
    simp [w1]
  have e2 : Try.prog.keyLits 2 3 [.int .i64 b] = some [.int .i64 b] := by
    unfold Program.keyLits
    rw [Try.underlying3]
    simp [w2]
  unfold Program.keyLits
  rw [Try.underlying41]
  have hc : Try.prog.cellsOf 41 = 2 := by kernel_rfl
  have c1 : Try.prog.cellsOf 39 = 1 := by kernel_rfl
  have c2 : Try.prog.cellsOf 3 = 1 := by kernel_rfl
  simp [hc, c1, c2, e1, e2]
set_option maxRecDepth 100000 in
theorem lease_eq {a b c d : Int} (h : LeaseOk a b) (k : LeaseOk c d) (w : World) :
    (binOp .eql 41 (leaseV a b) (leaseV c d)).run Try.prog w = .ok (.bool (decide (a = c ∧ b = d))) w ∧ (binOp .neq 41 (leaseV a b) (leaseV c d)).run Try.prog w = .ok (.bool (!decide (a = c ∧ b = d))) w := by
  have hk : Try.prog.keyTypeAt 5 41 = true := by kernel_rfl
  have fl : ∀ x y : Int, (leaseV x y).formed Try.prog 41 = true := fun x y => by
    unfold leaseV
    simp [Value.formed, Try.underlying41]
    kernel_rfl
  obtain ⟨r, hb, hiff⟩ := run_equalIn_deep (P := Try.prog) (10000 - 5) 5 41 hk w 3 3 _ _ _ _ (fl a b) (fl c d) (by simpa [leaseV, Value.cells] using lits_lease h) (by simpa [leaseV, Value.cells] using lits_lease k)
  rw [show 10000 - 5 + 5 = 10000 by omega] at hb
  have e : r = decide (a = c ∧ b = d) := by
    have hi : (([.int .u32 a, .int .i64 b] : List Lit) = [.int .u32 c, .int .i64 d]) ↔ (a = c ∧ b = d) := by simp
    rw [hi] at hiff
    by_cases h : a = c ∧ b = d
    · rw [decide_eq_true h, hiff.2 h]
    · rw [decide_eq_false h]
      cases r
      · rfl
      · exact absurd (hiff.1 rfl) h
  unfold leaseV at hb ⊢
  rw [run_eql_struct, run_neq_struct, hb, e]
  exact ⟨rfl, rfl⟩
end Go.Proofs.Ytkdmebcfedehiaa
/- wire.used: a request with nothing but what its kind uses. Printed by gens/used.py. -/
namespace Go.Proofs.Ytkdmebcfedehiaa
open Go.RowKit

def bareQ (q : Rq) : Rq := ⟨q.kind, q.ix, 0, 0, 0, 0, 0, []⟩
def usedQ (q : Rq) : Rq :=
  if q.kind = 2 then { bareQ q with number := q.number, who := q.who, till := q.till }
  else if q.kind = 3 then { bareQ q with number := q.number, pos := q.pos, len := q.len }
  else if q.kind = 4 then { bareQ q with who := q.who, till := q.till }
  else if q.kind = 5 then { bareQ q with who := q.who }
  else bareQ q
def usedS (q : Rq) (s : Value) : Value := if q.kind = 2 then s else .slice none 0 0
theorem rq_get (q : Rq) (s : Value) (h : q.ix.length = 16) (j : Nat) : (rqC q s)[17 + j]? = ([.int .i64 q.number, .int .i64 q.pos, .int .i64 q.len, .int .u32 (q.who : Int), .int .i64 q.till, s] : List Value)[j]? := by
  unfold rqC
  rw [List.getElem?_toArray, show 17 + j = (16 + j) + 1 by omega, List.getElem?_cons_succ, List.getElem?_append_right (by simp [h])]
  congr 1
  simp [h]
theorem rq_set (q : Rq) (s : Value) (h : q.ix.length = 16) (j : Nat) (v : Value) : (rqC q s).setIfInBounds (17 + j) v = (.int .u8 (q.kind : Int) :: (q.ix.map bval ++ ([.int .i64 q.number, .int .i64 q.pos, .int .i64 q.len, .int .u32 (q.who : Int), .int .i64 q.till, s] : List Value).set j v)).toArray := by
  unfold rqC
  rw [List.setIfInBounds_toArray, show 17 + j = (16 + j) + 1 by omega, List.set_cons_succ, List.set_append_right _ _ (by simp [h])]
  congr 3
  simp [h]
theorem rq_cell {w : World} {g : Nat} {q : Rq} {s : Value} (h : Row w g 43 (rqC q s)) (hx : q.ix.length = 16) (j : Nat) : w.cell? ⟨g, 17 + j, none⟩ = ([.int .i64 q.number, .int .i64 q.pos, .int .i64 q.len, .int .u32 (q.who : Int), .int .i64 q.till, s] : List Value)[j]? := by
  rw [Row.cell h, rq_get q s hx]
theorem rq_kind {w : World} {g : Nat} {q : Rq} {s : Value} (h : Row w g 43 (rqC q s)) : w.cell? ⟨g, 0, none⟩ = some (.int .u8 (q.kind : Int)) := by
  rw [Row.cell h]
  rfl
theorem rq_ixr {w : World} {g : Nat} {q : Rq} {s : Value} (h : Row w g 43 (rqC q s)) : w.rangeAt g 1 (q.ix.map bval) := by
  intro j v hj
  rw [Row.cell h, ← hj]
  obtain ⟨hk, _⟩ := List.getElem?_eq_some_iff.1 hj
  unfold rqC
  rw [List.getElem?_toArray, Nat.add_comm 1 j, List.getElem?_cons_succ, List.getElem?_append_left hk]
theorem key16 {l : List UInt8} (h : l.length = 16) : ∃ k0 k1 k2 k3 k4 k5 k6 k7 k8 k9 k10 k11 k12 k13 k14 k15, l = [k0, k1, k2, k3, k4, k5, k6, k7, k8, k9, k10, k11, k12, k13, k14, k15] := by
  match l, h with
  | [k0, k1, k2, k3, k4, k5, k6, k7, k8, k9, k10, k11, k12, k13, k14, k15], _ => exact ⟨k0, k1, k2, k3, k4, k5, k6, k7, k8, k9, k10, k11, k12, k13, k14, k15, rfl⟩
set_option maxRecDepth 100000 in
set_option maxHeartbeats 4000000 in
theorem run_build_req (w : World) (ev : Operand → Value) {o : Oper} (x y : Operand) (hop : o.op = .build 43 #[(0, x), (1, y)]) (k : Nat) (ix : List UInt8) (hix : ix.length = 16) (hx : ev x = .int .u8 (k : Int)) (hy : ev y = .agg (ix.map bval).toArray) :
    (execOp ev o).run Try.prog w = .ok (.value (.agg (rqC ⟨k, ix, 0, 0, 0, 0, 0, []⟩ (.slice none 0 0)))) w := by
  obtain ⟨ir, zr, hir, hirz, hirs, hz⟩ := info_req
  subst hz
  obtain ⟨i0, i1, i2, i3, i4, i5, i6, i7, i8, i9, i10, i11, i12, i13, i14, i15, rfl⟩ := key16 hix
  unfold execOp
  simp only [hop]
  simp [Instr.build, run_underlying Try.underlying43, typeInfo, zeroValue, hir, hirz, hx, hy, rqC, bval]
  simp [Instr.fill, Value.cells]
  first | done | trace_state
theorem results_cell1 {P : Program} {fn : Func} {p : Tmp} {ty : TypeId} (h : fn.results = #[.cell p ty]) (tmps : Array Value) (w : World) (g : Nat) (t : TypeId) (cs : Array Value) (fr : Nat × Nat) (d : TypeDesc)
    (hp : tmps.getD p undef = .pointer (some ⟨g, 0, none⟩)) (hg : w.heap[g]? = some (.cells cs t fr))
    (hu : P.underlying ty = some d) (hd : (match d with | .struct _ | .array _ _ => true | _ => false) = true) (hi : (P.info? ty).map (·.size) = some cs.size) :
    (results fn tmps).run P w = .ok (.agg cs) w := by
  have hp' : tmps[p]?.getD undef = .pointer (some ⟨g, 0, none⟩) := by simpa using hp
  simp [results, h, hp', asAddr, run_loadVar_row w g t ty cs fr d hg hu hd hi]
theorem zreq_one : ((#[.int .u8 0, .int .u8 0, .int .u8 0, .int .u8 0, .int .u8 0, .int .u8 0, .int .u8 0, .int .u8 0, .int .u8 0, .int .u8 0, .int .u8 0, .int .u8 0, .int .u8 0, .int .u8 0, .int .u8 0, .int .u8 0, .int .u8 0, .int .i64 0, .int .i64 0, .int .i64 0, .int .u32 0, .int .i64 0, .slice none 0 0] : Array Value)).all (·.oneCell') = true := by simp [Value.oneCell']
set_option maxRecDepth 100000 in
set_option maxHeartbeats 4000000 in
theorem used_0 (K : Int) (q : Rq) (a : Option Addr) (n c : Nat) (w : World) (hx : q.ix.length = 16) (h2 : q.kind ≠ 2) (h3 : q.kind ≠ 3) (h4 : q.kind ≠ 4) (h5 : q.kind ≠ 5) :
    Calls Try.prog 57 #[.agg (rqC q (.slice a n c))] w fun e w' => e = .returned (.agg (rqC (bareQ q) (.slice none 0 0))) ∧ w.grownBy w' none := by
  obtain ⟨ir, zr, hir, hirz, hirs, hz⟩ := info_req
  subst hz
  have HX := Lib.hid hx
  clear hx
  go_enter Try.func57, Try.ntmps57
  go_upto_region 1 with (first
    | (refine wpList_boxed rfl rfl (rqC q (.slice a n c)) rfl ?_; intro w1 hs g hr; have G1 := Lib.hid g; have R1 := Lib.hid (show Row w1 w.heap.size 43 (rqC q (.slice a n c)) from hr); clear hs g hr)
    | (refine wpList_made rfl rfl hir hirz ?_; intro w2 hs g hr; have G2 := Lib.hid (grownBy_trans G1.out g); have R2 := Lib.hid (R1.out.grown g); have RR := Lib.hid (show Row w2 w1.heap.size 43 #[.int .u8 0, .int .u8 0, .int .u8 0, .int .u8 0, .int .u8 0, .int .u8 0, .int .u8 0, .int .u8 0, .int .u8 0, .int .u8 0, .int .u8 0, .int .u8 0, .int .u8 0, .int .u8 0, .int .u8 0, .int .u8 0, .int .u8 0, .int .i64 0, .int .i64 0, .int .i64 0, .int .u32 0, .int .i64 0, .slice none 0 0] from hr); clear hs g hr))
  obtain ⟨b1, hb1⟩ : ∃ b1, b1 = w.heap.size := ⟨_, rfl⟩
  obtain ⟨b2, hb2⟩ : ∃ b2, b2 = w1.heap.size := ⟨_, rfl⟩
  have HB := Lib.hid (show w.heap.size ≤ b1 ∧ b1 < b2 ∧ b2 < w2.heap.size from ⟨by omega, by rw [hb1, hb2]; exact R1.out.lt, by rw [hb2]; exact RR.out.lt⟩)
  rw [← hb1] at R2 ⊢
  rw [← hb2] at RR ⊢
  clear hb1 hb2 R1 G1
  have c0 := rq_kind R2.out
  go_upto_region 2 with (first
    | (refine wpList_load_mid rfl 38 _ rfl b1 1 rfl (q.ix.map bval) _ (rq_ixr R2.out) Try.underlying38 rfl (by rw [size_ix, List.length_map, HX.out]) ?_)
    | (refine wpList_valp rfl (run_build_req _ _ (.tmp 5) (.tmp 7) rfl q.kind q.ix HX.out rfl rfl) ?_)
    | (refine wpList_fresh rfl rfl rfl rfl rfl hir hirz hirs (rqC (bareQ q) (.slice none 0 0)) rfl rfl (by rw [rq_len (bareQ q) _ HX.out]; rfl) (rq_one _ _ _ _) ?_; intro w3 hs g hr; have G3 := Lib.hid (grownBy_trans G2.out g); have R3 := Lib.hid (R2.out.grown g); have RS := Lib.hid (RR.out.grown g); have RB := Lib.hid (show Row w3 w2.heap.size 43 (rqC (bareQ q) (.slice none 0 0)) from hr); clear hs g hr))
  obtain ⟨b3, hb3⟩ : ∃ b3, b3 = w2.heap.size := ⟨_, rfl⟩
  have HB3 := Lib.hid (show b2 < b3 by rw [hb3]; exact HB.out.2.2)
  rw [← hb3] at RB ⊢
  clear hb3 R2 RR c0
  have c0 := rq_kind R3.out
  obtain ⟨KK, hKK⟩ : ∃ KK : Int, KK = (q.kind : Int) := ⟨_, rfl⟩
  rw [← hKK] at c0
  have e2 : (KK == 2) = false := by rw [beq_eq_false_iff_ne]; omega
  have e3 : (KK == 3) = false := by rw [beq_eq_false_iff_ne]; omega
  have e4 : (KK == 4) = false := by rw [beq_eq_false_iff_ne]; omega
  have e5 : (KK == 5) = false := by rw [beq_eq_false_iff_ne]; omega
  clear hKK h2 h3 h4 h5
  go_wp2_with (first
    | (refine wpList_load_row rfl 43 _ rfl b3 rfl 43 (rqC (bareQ q) (.slice none 0 0)) (0, 0) _ RB.out Try.underlying43 rfl (by rw [size_req]; exact congrArg some (rq_len (bareQ q) _ HX.out).symm) ?_)
    | (refine wpList_putrow rfl rfl b2 rfl (rqC (bareQ q) (.slice none 0 0)) rfl RS.out (by rw [size_req]; exact congrArg some (rq_len (bareQ q) _ HX.out).symm) (rq_len (bareQ q) _ HX.out).symm (rq_one _ _ _ _) ?_; intro W5 hg5 hr5; have HG5 := Lib.hid hg5; have HR5 := Lib.hid hr5; clear hg5 hr5))
  refine bodyPost_ret (results_cell1 rfl _ _ b2 43 (rqC (bareQ q) (.slice none 0 0)) (0, 0) _ rfl HR5.out Try.underlying43 rfl (by rw [size_req]; exact congrArg some (rq_len (bareQ q) _ HX.out).symm)) rfl ?_
  exact ⟨rfl, grownBy_old G3.out HG5.out (by have := HB.out; omega)⟩
set_option maxRecDepth 100000 in
set_option maxHeartbeats 4000000 in
theorem used_5 (K : Int) (q : Rq) (a : Option Addr) (n c : Nat) (w : World) (hx : q.ix.length = 16) (hk : q.kind = 5) :
    Calls Try.prog 57 #[.agg (rqC q (.slice a n c))] w fun e w' => e = .returned (.agg (rqC ({ bareQ q with who := q.who }) (.slice none 0 0))) ∧ w.grownBy w' none := by
  have HKQ := Lib.hid hk
  clear hk
  obtain ⟨ir, zr, hir, hirz, hirs, hz⟩ := info_req
  subst hz
  have HX := Lib.hid hx
  clear hx
  go_enter Try.func57, Try.ntmps57
  go_upto_region 1 with (first
    | (refine wpList_boxed rfl rfl (rqC q (.slice a n c)) rfl ?_; intro w1 hs g hr; have G1 := Lib.hid g; have R1 := Lib.hid (show Row w1 w.heap.size 43 (rqC q (.slice a n c)) from hr); clear hs g hr)
    | (refine wpList_made rfl rfl hir hirz ?_; intro w2 hs g hr; have G2 := Lib.hid (grownBy_trans G1.out g); have R2 := Lib.hid (R1.out.grown g); have RR := Lib.hid (show Row w2 w1.heap.size 43 #[.int .u8 0, .int .u8 0, .int .u8 0, .int .u8 0, .int .u8 0, .int .u8 0, .int .u8 0, .int .u8 0, .int .u8 0, .int .u8 0, .int .u8 0, .int .u8 0, .int .u8 0, .int .u8 0, .int .u8 0, .int .u8 0, .int .u8 0, .int .i64 0, .int .i64 0, .int .i64 0, .int .u32 0, .int .i64 0, .slice none 0 0] from hr); clear hs g hr))
  obtain ⟨b1, hb1⟩ : ∃ b1, b1 = w.heap.size := ⟨_, rfl⟩
  obtain ⟨b2, hb2⟩ : ∃ b2, b2 = w1.heap.size := ⟨_, rfl⟩
  have HB := Lib.hid (show w.heap.size ≤ b1 ∧ b1 < b2 ∧ b2 < w2.heap.size from ⟨by omega, by rw [hb1, hb2]; exact R1.out.lt, by rw [hb2]; exact RR.out.lt⟩)
  rw [← hb1] at R2 ⊢
  rw [← hb2] at RR ⊢
  clear hb1 hb2 R1 G1
  have c0 := rq_kind R2.out
  go_upto_region 2 with (first
    | (refine wpList_load_mid rfl 38 _ rfl b1 1 rfl (q.ix.map bval) _ (rq_ixr R2.out) Try.underlying38 rfl (by rw [size_ix, List.length_map, HX.out]) ?_)
    | (refine wpList_valp rfl (run_build_req _ _ (.tmp 5) (.tmp 7) rfl q.kind q.ix HX.out rfl rfl) ?_)
    | (refine wpList_fresh rfl rfl rfl rfl rfl hir hirz hirs (rqC (bareQ q) (.slice none 0 0)) rfl rfl (by rw [rq_len (bareQ q) _ HX.out]; rfl) (rq_one _ _ _ _) ?_; intro w3 hs g hr; have G3 := Lib.hid (grownBy_trans G2.out g); have R3 := Lib.hid (R2.out.grown g); have RS := Lib.hid (RR.out.grown g); have RB := Lib.hid (show Row w3 w2.heap.size 43 (rqC (bareQ q) (.slice none 0 0)) from hr); clear hs g hr))
  obtain ⟨b3, hb3⟩ : ∃ b3, b3 = w2.heap.size := ⟨_, rfl⟩
  have HB3 := Lib.hid (show b2 < b3 by rw [hb3]; exact HB.out.2.2)
  rw [← hb3] at RB ⊢
  clear hb3 R2 RR c0
  have c0 := rq_kind R3.out
  have c0' : w3.cell? ⟨b1, 0, none⟩ = some (.int .u8 5) := by rw [c0, HKQ.out]; rfl
  clear c0
  have x3 := rq_cell R3.out HX.out 3
  have d3 := rq_cell RB.out HX.out 3
  have f3 := Row.frozen RB.out 20
  simp at x3 d3
  go_upto_region 11 with fail
  obtain ⟨w4, h4⟩ : ∃ w4, w4 = w3.setCell ⟨b3, 20, none⟩ (.int .u32 (q.who : Int)) := ⟨_, rfl⟩
  rw [← h4]
  have g4 : w3.grownBy w4 (some b3) := h4 ▸ grownBy_setCell _ _ _ _
  have RB4 := Lib.hid (show Row w4 b3 43 (rqC ({ bareQ q with who := q.who }) (.slice none 0 0)) from by
    have h := Row.setc RB.out 20 (.int .u32 (q.who : Int))
    rw [show 20 = 17 + 3 from rfl, rq_set (bareQ q) _ HX.out] at h
    rw [h4]
    exact h)
  have RS4 := Lib.hid (RS.out.grownNe g4 (by have := HB3.out; omega))
  have R4 := Lib.hid (R3.out.grownNe g4 (by have h1 := HB.out; have h2 := HB3.out; omega))
  have G4 := Lib.hid (grownBy_old G3.out g4 (by have h1 := HB.out; have h2 := HB3.out; omega))
  clear h4 g4 x3 d3 f3
  go_wp2_with (first
    | (refine wpList_load_row rfl 43 _ rfl b3 rfl 43 (rqC ({ bareQ q with who := q.who }) (.slice none 0 0)) (0, 0) _ RB4.out Try.underlying43 rfl (by rw [size_req]; exact congrArg some (rq_len ({ bareQ q with who := q.who }) _ HX.out).symm) ?_)
    | (refine wpList_putrow rfl rfl b2 rfl (rqC ({ bareQ q with who := q.who }) (.slice none 0 0)) rfl RS4.out (by rw [size_req]; exact congrArg some (rq_len ({ bareQ q with who := q.who }) _ HX.out).symm) (rq_len ({ bareQ q with who := q.who }) _ HX.out).symm (rq_one _ _ _ _) ?_; intro W5 hg5 hr5; have HG5 := Lib.hid hg5; have HR5 := Lib.hid hr5; clear hg5 hr5))
  refine bodyPost_ret (results_cell1 rfl _ _ b2 43 (rqC ({ bareQ q with who := q.who }) (.slice none 0 0)) (0, 0) _ rfl HR5.out Try.underlying43 rfl (by rw [size_req]; exact congrArg some (rq_len ({ bareQ q with who := q.who }) _ HX.out).symm)) rfl ?_
  exact ⟨rfl, grownBy_old G4.out HG5.out (by have := HB.out; omega)⟩
set_option maxRecDepth 100000 in
set_option maxHeartbeats 4000000 in
theorem used_4 (K : Int) (q : Rq) (a : Option Addr) (n c : Nat) (w : World) (hx : q.ix.length = 16) (hk : q.kind = 4) :
    Calls Try.prog 57 #[.agg (rqC q (.slice a n c))] w fun e w' => e = .returned (.agg (rqC ({ bareQ q with who := q.who, till := q.till }) (.slice none 0 0))) ∧ w.grownBy w' none := by
  have HKQ := Lib.hid hk
  clear hk
  obtain ⟨ir, zr, hir, hirz, hirs, hz⟩ := info_req
  subst hz
  have HX := Lib.hid hx
  clear hx
  go_enter Try.func57, Try.ntmps57
  go_upto_region 1 with (first
    | (refine wpList_boxed rfl rfl (rqC q (.slice a n c)) rfl ?_; intro w1 hs g hr; have G1 := Lib.hid g; have R1 := Lib.hid (show Row w1 w.heap.size 43 (rqC q (.slice a n c)) from hr); clear hs g hr)
    | (refine wpList_made rfl rfl hir hirz ?_; intro w2 hs g hr; have G2 := Lib.hid (grownBy_trans G1.out g); have R2 := Lib.hid (R1.out.grown g); have RR := Lib.hid (show Row w2 w1.heap.size 43 #[.int .u8 0, .int .u8 0, .int .u8 0, .int .u8 0, .int .u8 0, .int .u8 0, .int .u8 0, .int .u8 0, .int .u8 0, .int .u8 0, .int .u8 0, .int .u8 0, .int .u8 0, .int .u8 0, .int .u8 0, .int .u8 0, .int .u8 0, .int .i64 0, .int .i64 0, .int .i64 0, .int .u32 0, .int .i64 0, .slice none 0 0] from hr); clear hs g hr))
  obtain ⟨b1, hb1⟩ : ∃ b1, b1 = w.heap.size := ⟨_, rfl⟩
  obtain ⟨b2, hb2⟩ : ∃ b2, b2 = w1.heap.size := ⟨_, rfl⟩
  have HB := Lib.hid (show w.heap.size ≤ b1 ∧ b1 < b2 ∧ b2 < w2.heap.size from ⟨by omega, by rw [hb1, hb2]; exact R1.out.lt, by rw [hb2]; exact RR.out.lt⟩)
  rw [← hb1] at R2 ⊢
  rw [← hb2] at RR ⊢
  clear hb1 hb2 R1 G1
  have c0 := rq_kind R2.out
  go_upto_region 2 with (first
    | (refine wpList_load_mid rfl 38 _ rfl b1 1 rfl (q.ix.map bval) _ (rq_ixr R2.out) Try.underlying38 rfl (by rw [size_ix, List.length_map, HX.out]) ?_)
    | (refine wpList_valp rfl (run_build_req _ _ (.tmp 5) (.tmp 7) rfl q.kind q.ix HX.out rfl rfl) ?_)
    | (refine wpList_fresh rfl rfl rfl rfl rfl hir hirz hirs (rqC (bareQ q) (.slice none 0 0)) rfl rfl (by rw [rq_len (bareQ q) _ HX.out]; rfl) (rq_one _ _ _ _) ?_; intro w3 hs g hr; have G3 := Lib.hid (grownBy_trans G2.out g); have R3 := Lib.hid (R2.out.grown g); have RS := Lib.hid (RR.out.grown g); have RB := Lib.hid (show Row w3 w2.heap.size 43 (rqC (bareQ q) (.slice none 0 0)) from hr); clear hs g hr))
  obtain ⟨b3, hb3⟩ : ∃ b3, b3 = w2.heap.size := ⟨_, rfl⟩
  have HB3 := Lib.hid (show b2 < b3 by rw [hb3]; exact HB.out.2.2)
  rw [← hb3] at RB ⊢
  clear hb3 R2 RR c0
  have c0 := rq_kind R3.out
  have c0' : w3.cell? ⟨b1, 0, none⟩ = some (.int .u8 4) := by rw [c0, HKQ.out]; rfl
  clear c0
  have x4 := rq_cell R3.out HX.out 4
  have d4 := rq_cell RB.out HX.out 4
  have f4 := Row.frozen RB.out 21
  simp at x4 d4
  go_upto_region 10 with fail
  obtain ⟨w4, h4⟩ : ∃ w4, w4 = w3.setCell ⟨b3, 21, none⟩ (.int .i64 q.till) := ⟨_, rfl⟩
  rw [← h4]
  have g4 : w3.grownBy w4 (some b3) := h4 ▸ grownBy_setCell _ _ _ _
  have RB4 := Lib.hid (show Row w4 b3 43 (rqC ({ bareQ q with till := q.till }) (.slice none 0 0)) from by
    have h := Row.setc RB.out 21 (.int .i64 q.till)
    rw [show 21 = 17 + 4 from rfl, rq_set (bareQ q) _ HX.out] at h
    rw [h4]
    exact h)
  have RS4 := Lib.hid (RS.out.grownNe g4 (by have := HB3.out; omega))
  have R4 := Lib.hid (R3.out.grownNe g4 (by have h1 := HB.out; have h2 := HB3.out; omega))
  have G4 := Lib.hid (grownBy_old G3.out g4 (by have h1 := HB.out; have h2 := HB3.out; omega))
  clear h4 g4 x4 d4 f4
  clear c0'
  have x3 := rq_cell R4.out HX.out 3
  have d3 := rq_cell RB4.out HX.out 3
  have f3 := Row.frozen RB4.out 20
  simp at x3 d3
  go_upto_region 11 with fail
  obtain ⟨w5, h5⟩ : ∃ w5, w5 = w4.setCell ⟨b3, 20, none⟩ (.int .u32 (q.who : Int)) := ⟨_, rfl⟩
  rw [← h5]
  have g5 : w4.grownBy w5 (some b3) := h5 ▸ grownBy_setCell _ _ _ _
  have RB5 := Lib.hid (show Row w5 b3 43 (rqC ({ bareQ q with who := q.who, till := q.till }) (.slice none 0 0)) from by
    have h := Row.setc RB4.out 20 (.int .u32 (q.who : Int))
    rw [show 20 = 17 + 3 from rfl, rq_set ({ bareQ q with till := q.till }) _ HX.out] at h
    rw [h5]
    exact h)
  have RS5 := Lib.hid (RS4.out.grownNe g5 (by have := HB3.out; omega))
  have R5 := Lib.hid (R4.out.grownNe g5 (by have h1 := HB.out; have h2 := HB3.out; omega))
  have G5 := Lib.hid (grownBy_old G4.out g5 (by have h1 := HB.out; have h2 := HB3.out; omega))
  clear h5 g5 x3 d3 f3
  go_wp2_with (first
    | (refine wpList_load_row rfl 43 _ rfl b3 rfl 43 (rqC ({ bareQ q with who := q.who, till := q.till }) (.slice none 0 0)) (0, 0) _ RB5.out Try.underlying43 rfl (by rw [size_req]; exact congrArg some (rq_len ({ bareQ q with who := q.who, till := q.till }) _ HX.out).symm) ?_)
    | (refine wpList_putrow rfl rfl b2 rfl (rqC ({ bareQ q with who := q.who, till := q.till }) (.slice none 0 0)) rfl RS5.out (by rw [size_req]; exact congrArg some (rq_len ({ bareQ q with who := q.who, till := q.till }) _ HX.out).symm) (rq_len ({ bareQ q with who := q.who, till := q.till }) _ HX.out).symm (rq_one _ _ _ _) ?_; intro W6 hg6 hr6; have HG6 := Lib.hid hg6; have HR6 := Lib.hid hr6; clear hg6 hr6))
  refine bodyPost_ret (results_cell1 rfl _ _ b2 43 (rqC ({ bareQ q with who := q.who, till := q.till }) (.slice none 0 0)) (0, 0) _ rfl HR6.out Try.underlying43 rfl (by rw [size_req]; exact congrArg some (rq_len ({ bareQ q with who := q.who, till := q.till }) _ HX.out).symm)) rfl ?_
  exact ⟨rfl, grownBy_old G5.out HG6.out (by have := HB.out; omega)⟩
/-- a request's row with any values in its last six cells -/
def rqG (q : Rq) (x0 x1 x2 x3 x4 x5 : Value) : Array Value := (.int .u8 (q.kind : Int) :: (q.ix.map bval ++ [x0, x1, x2, x3, x4, x5])).toArray
theorem rqG_set (q : Rq) (x0 x1 x2 x3 x4 x5 : Value) (h : q.ix.length = 16) (j : Nat) (v : Value) : (rqG q x0 x1 x2 x3 x4 x5).setIfInBounds (17 + j) v = (.int .u8 (q.kind : Int) :: (q.ix.map bval ++ ([x0, x1, x2, x3, x4, x5] : List Value).set j v)).toArray := by
  unfold rqG
  rw [List.setIfInBounds_toArray, show 17 + j = (16 + j) + 1 by omega, List.set_cons_succ, List.set_append_right _ _ (by simp [h])]
  congr 3
  simp [h]
theorem rqG_get (q : Rq) (x0 x1 x2 x3 x4 x5 : Value) (h : q.ix.length = 16) (j : Nat) : (rqG q x0 x1 x2 x3 x4 x5)[17 + j]? = ([x0, x1, x2, x3, x4, x5] : List Value)[j]? := by
  unfold rqG
  rw [List.getElem?_toArray, show 17 + j = (16 + j) + 1 by omega, List.getElem?_cons_succ, List.getElem?_append_right (by simp [h])]
  congr 1
  simp [h]
theorem rqG_there {w : World} {g : Nat} {q : Rq} {x0 x1 x2 x3 x4 x5 : Value} (h : Row w g 43 (rqG q x0 x1 x2 x3 x4 x5)) (hx : q.ix.length = 16) (o n : Nat) (hn : o + n ≤ 6) : w.there g (17 + o) n := by
  intro j hj
  refine ⟨?_, Row.frozen h _⟩
  rw [show 17 + o + j = 17 + (o + j) by omega, Row.cell h, rqG_get _ _ _ _ _ _ _ hx, List.getElem?_eq_getElem (by simp; omega)]
  rfl
theorem wp_skip_opU {P : Program} {o : Oper} {a : Act} {w w1 : World} {K : Act → World → Prop} {Q : Exit → Act → World → Prop} (h : (execOp a.eval o).run P w = .ok .skip w1) (hk : K (a.put o.dst undef) w1) : o.wp P a w K Q := by
  unfold Oper.wp
  rw [h, Oper.upon_skip]
  exact hk
theorem size_lease : (Try.prog.info? 41).map (·.size) = some 2 := by kernel_rfl
theorem rq_mid {w : World} {g : Nat} {q : Rq} {s : Value} (h : Row w g 43 (rqC q s)) (hx : q.ix.length = 16) : w.rangeAt g 20 [.int .u32 (q.who : Int), .int .i64 q.till] := by
  intro j v hj
  have hj2 : j < 2 := by
    rcases Nat.lt_or_ge j 2 with h | h
    · exact h
    · rw [List.getElem?_eq_none (by simpa using h)] at hj; cases hj
  rw [show 20 + j = 17 + (3 + j) by omega, rq_cell h hx, ← hj]
  match j, hj2 with
  | 0, _ => rfl
  | 1, _ => rfl
theorem run_loadmid (w : World) (ev : Operand → Value) {o : Oper} (ty : TypeId) (x : Operand) (ho : o.op = .load ty x) (b k : Nat) (hx : ev x = .pointer (some ⟨b, k, none⟩)) (cs : List Value) (d : TypeDesc) (hc : w.rangeAt b k cs)
    (hu : Try.prog.underlying ty = some d) (hd : d.isRow = true) (hi : (Try.prog.info? ty).map (·.size) = some cs.length) : (execOp ev o).run Try.prog w = .ok (.value (.agg cs.toArray)) w := by
  unfold execOp
  simp only [ho, hx, Instr.loadAt, Instr.sureAddr, Sem.run_bind, Sem.run_pure, Result.andThen_ok, run_loadVar_mid w b k ty cs d hc hu hd hi]
/-- worlds in which the block b alone may have changed, from W on; and a request's row lies there, of which T -/
def SG (b : Nat) (W : World) (q : Rq) (T : Value → Value → Value → Value → Value → Value → Prop) (u : World) : Prop := Ch (fun x => x = b) W u ∧ ∃ x0 x1 x2 x3 x4 x5, T x0 x1 x2 x3 x4 x5 ∧ Row u b 43 (rqG q x0 x1 x2 x3 x4 x5)
theorem clo_SG (b : Nat) (W : World) (q : Rq) (T : Value → Value → Value → Value → Value → Value → Prop) : Clo (SG b W q T) := fun u u' h g => ⟨h.1.trans (Ch.ofNone g (fun x => x = b)) (fun _ _ h => h), by
  obtain ⟨x0, x1, x2, x3, x4, x5, h1, h2⟩ := h.2
  exact ⟨x0, x1, x2, x3, x4, x5, h1, h2.grown g⟩⟩

set_option maxRecDepth 100000 in
set_option maxHeartbeats 4000000 in
theorem used_2 (K : Int) (q : Rq) (a : Option Addr) (n c : Nat) (w : World) (hx : q.ix.length = 16) (hk : q.kind = 2) :
    Calls Try.prog 57 #[.agg (rqC q (.slice a n c))] w fun e w' => e = .returned (.agg (rqC ({ bareQ q with number := q.number, who := q.who, till := q.till }) (.slice a n c))) ∧ w.grownBy w' none := by
  have HKQ := Lib.hid hk
  clear hk
  obtain ⟨ir, zr, hir, hirz, hirs, hz⟩ := info_req
  subst hz
  have HX := Lib.hid hx
  clear hx
  go_enter Try.func57, Try.ntmps57
  go_upto_region 1 with (first
    | (refine wpList_boxed rfl rfl (rqC q (.slice a n c)) rfl ?_; intro w1 hs g hr; have G1 := Lib.hid g; have R1 := Lib.hid (show Row w1 w.heap.size 43 (rqC q (.slice a n c)) from hr); clear hs g hr)
    | (refine wpList_made rfl rfl hir hirz ?_; intro w2 hs g hr; have G2 := Lib.hid (grownBy_trans G1.out g); have R2 := Lib.hid (R1.out.grown g); have RR := Lib.hid (show Row w2 w1.heap.size 43 #[.int .u8 0, .int .u8 0, .int .u8 0, .int .u8 0, .int .u8 0, .int .u8 0, .int .u8 0, .int .u8 0, .int .u8 0, .int .u8 0, .int .u8 0, .int .u8 0, .int .u8 0, .int .u8 0, .int .u8 0, .int .u8 0, .int .u8 0, .int .i64 0, .int .i64 0, .int .i64 0, .int .u32 0, .int .i64 0, .slice none 0 0] from hr); clear hs g hr))
  obtain ⟨b1, hb1⟩ : ∃ b1, b1 = w.heap.size := ⟨_, rfl⟩
  obtain ⟨b2, hb2⟩ : ∃ b2, b2 = w1.heap.size := ⟨_, rfl⟩
  have HB := Lib.hid (show w.heap.size ≤ b1 ∧ b1 < b2 ∧ b2 < w2.heap.size from ⟨by omega, by rw [hb1, hb2]; exact R1.out.lt, by rw [hb2]; exact RR.out.lt⟩)
  rw [← hb1] at R2 ⊢
  rw [← hb2] at RR ⊢
  clear hb1 hb2 R1 G1
  have c0 := rq_kind R2.out
  go_upto_region 2 with (first
    | (refine wpList_load_mid rfl 38 _ rfl b1 1 rfl (q.ix.map bval) _ (rq_ixr R2.out) Try.underlying38 rfl (by rw [size_ix, List.length_map, HX.out]) ?_)
    | (refine wpList_valp rfl (run_build_req _ _ (.tmp 5) (.tmp 7) rfl q.kind q.ix HX.out rfl rfl) ?_)
    | (refine wpList_fresh rfl rfl rfl rfl rfl hir hirz hirs (rqC (bareQ q) (.slice none 0 0)) rfl rfl (by rw [rq_len (bareQ q) _ HX.out]; rfl) (rq_one _ _ _ _) ?_; intro w3 hs g hr; have G3 := Lib.hid (grownBy_trans G2.out g); have R3 := Lib.hid (R2.out.grown g); have RS := Lib.hid (RR.out.grown g); have RB := Lib.hid (show Row w3 w2.heap.size 43 (rqC (bareQ q) (.slice none 0 0)) from hr); clear hs g hr))
  obtain ⟨b3, hb3⟩ : ∃ b3, b3 = w2.heap.size := ⟨_, rfl⟩
  have HB3 := Lib.hid (show b2 < b3 by rw [hb3]; exact HB.out.2.2)
  rw [← hb3] at RB ⊢
  clear hb3 R2 RR c0
  have c0 := rq_kind R3.out
  have c0' : w3.cell? ⟨b1, 0, none⟩ = some (.int .u8 2) := by rw [c0, HKQ.out]; rfl
  clear c0
  go_upto_region 7 with fail
  refine wp_normalR ?_
  refine wp_regionX (SG b3 w3 q (fun x0 x1 x2 x3 x4 x5 => x1 = .int .i64 0 ∧ x2 = .int .i64 0)) 11 (by kernel_rfl) ⟨Ch.ofNone (grownBy_drewN w3 1 none) _, _, _, _, _, _, _, ⟨rfl, rfl⟩, (show Row w3 b3 43 (rqG q (.int .i64 0) (.int .i64 0) (.int .i64 0) (.int .u32 0) (.int .i64 0) (.slice none 0 0)) from RB.out).grown (grownBy_drewN w3 1 none)⟩ ?_
  refine wpX_take 0 (v := .pointer (some ⟨b1, 17, none⟩)) (oi := { dst := some 19, op := Op.fieldAddr 43 (Operand.tmp 1) 2, type := 0, pos := "wire.go:23", after := #[], guard := none }) (oL := { dst := none, op := Op.store 24 (Operand.tmp 27) (Operand.tmp 24), type := 0, pos := "wire.go:23", after := #[{ on := 10, ground := Ground.data }, { on := 5, ground := Ground.data }, { on := 9, ground := Ground.chain }, { on := 0, ground := Ground.phase }, { on := 1, ground := Ground.phase }, { on := 2, ground := Ground.phase }, { on := 3, ground := Ground.phase }, { on := 4, ground := Ground.phase }, { on := 5, ground := Ground.phase }, { on := 6, ground := Ground.phase }, { on := 7, ground := Ground.phase }, { on := 8, ground := Ground.phase }, { on := 9, ground := Ground.phase }], guard := none }) (clo_SG _ _ _ _) rfl rfl rfl (by kernel_rfl) (by kernel_rfl) (by kernel_rfl) (by kernel_rfl) (by kernel_rfl) (fun _ _ _ h => by cases h.1) (YG.val (by rfl) (fun _ _ => by go_simp)) ?_
  simp only [Act.put, List.setIfInBounds_toArray, List.set_cons_zero, List.set_cons_succ]
  refine wpX_take 1 (v := .int .i64 q.number) (oi := { dst := some 20, op := Op.load 3 (Operand.tmp 19), type := 3, pos := "wire.go:23", after := #[{ on := 0, ground := Ground.data }], guard := none }) (oL := { dst := none, op := Op.store 24 (Operand.tmp 27) (Operand.tmp 24), type := 0, pos := "wire.go:23", after := #[{ on := 10, ground := Ground.data }, { on := 5, ground := Ground.data }, { on := 9, ground := Ground.chain }, { on := 0, ground := Ground.phase }, { on := 1, ground := Ground.phase }, { on := 2, ground := Ground.phase }, { on := 3, ground := Ground.phase }, { on := 4, ground := Ground.phase }, { on := 5, ground := Ground.phase }, { on := 6, ground := Ground.phase }, { on := 7, ground := Ground.phase }, { on := 8, ground := Ground.phase }, { on := 9, ground := Ground.phase }], guard := none }) (clo_SG _ _ _ _) rfl rfl rfl (by kernel_rfl) (by kernel_rfl) (by kernel_rfl) (by kernel_rfl) (by kernel_rfl) (fun _ _ _ h => by cases h.1) (YG.val (by rfl) (fun u hu => by have c := rq_cell (R3.out.ch hu.1 (fun h => by have h1 := HB.out; have h2 := HB3.out; omega)) HX.out 0; simp at c; go_simp)) ?_
  simp only [Act.put, List.setIfInBounds_toArray, List.set_cons_zero, List.set_cons_succ]
  refine wpX_take 2 (v := .pointer (some ⟨b1, 20, none⟩)) (oi := { dst := some 21, op := Op.fieldAddr 43 (Operand.tmp 1) 5, type := 0, pos := "wire.go:23", after := #[{ on := 7, ground := Ground.gcOnly Departure.lateStores }], guard := none }) (oL := { dst := none, op := Op.store 24 (Operand.tmp 27) (Operand.tmp 24), type := 0, pos := "wire.go:23", after := #[{ on := 10, ground := Ground.data }, { on := 5, ground := Ground.data }, { on := 9, ground := Ground.chain }, { on := 0, ground := Ground.phase }, { on := 1, ground := Ground.phase }, { on := 2, ground := Ground.phase }, { on := 3, ground := Ground.phase }, { on := 4, ground := Ground.phase }, { on := 5, ground := Ground.phase }, { on := 6, ground := Ground.phase }, { on := 7, ground := Ground.phase }, { on := 8, ground := Ground.phase }, { on := 9, ground := Ground.phase }], guard := none }) (clo_SG _ _ _ _) rfl rfl rfl (by kernel_rfl) (by kernel_rfl) (by kernel_rfl) (by kernel_rfl) (by kernel_rfl) (fun _ _ _ h => by cases h.1) (YG.val (by rfl) (fun _ _ => by go_simp)) ?_
  simp only [Act.put, List.setIfInBounds_toArray, List.set_cons_zero, List.set_cons_succ]
  refine wpX_take 3 (v := .agg #[.int .u32 (q.who : Int), .int .i64 q.till]) (oi := { dst := some 22, op := Op.load 41 (Operand.tmp 21), type := 41, pos := "wire.go:23", after := #[{ on := 2, ground := Ground.data }, { on := 7, ground := Ground.gcOnly Departure.lateStores }], guard := none }) (oL := { dst := none, op := Op.store 24 (Operand.tmp 27) (Operand.tmp 24), type := 0, pos := "wire.go:23", after := #[{ on := 10, ground := Ground.data }, { on := 5, ground := Ground.data }, { on := 9, ground := Ground.chain }, { on := 0, ground := Ground.phase }, { on := 1, ground := Ground.phase }, { on := 2, ground := Ground.phase }, { on := 3, ground := Ground.phase }, { on := 4, ground := Ground.phase }, { on := 5, ground := Ground.phase }, { on := 6, ground := Ground.phase }, { on := 7, ground := Ground.phase }, { on := 8, ground := Ground.phase }, { on := 9, ground := Ground.phase }], guard := none }) (clo_SG _ _ _ _) rfl rfl rfl (by kernel_rfl) (by kernel_rfl) (by kernel_rfl) (by kernel_rfl) (by kernel_rfl) (fun _ _ _ h => by cases h.1) (YG.val (by rfl) (fun u hu => run_loadmid u _ 41 (.tmp 21) rfl b1 20 rfl _ _ (rq_mid (R3.out.ch hu.1 (fun h => by have h1 := HB.out; have h2 := HB3.out; omega)) HX.out) Try.underlying41 rfl (by rw [size_lease]; rfl))) ?_
  simp only [Act.put, List.setIfInBounds_toArray, List.set_cons_zero, List.set_cons_succ]
  refine wpX_take 4 (v := .pointer (some ⟨b1, 22, none⟩)) (oi := { dst := some 23, op := Op.fieldAddr 43 (Operand.tmp 1) 6, type := 0, pos := "wire.go:23", after := #[{ on := 9, ground := Ground.gcOnly Departure.lateStores }], guard := none }) (oL := { dst := none, op := Op.store 24 (Operand.tmp 27) (Operand.tmp 24), type := 0, pos := "wire.go:23", after := #[{ on := 10, ground := Ground.data }, { on := 5, ground := Ground.data }, { on := 9, ground := Ground.chain }, { on := 0, ground := Ground.phase }, { on := 1, ground := Ground.phase }, { on := 2, ground := Ground.phase }, { on := 3, ground := Ground.phase }, { on := 4, ground := Ground.phase }, { on := 5, ground := Ground.phase }, { on := 6, ground := Ground.phase }, { on := 7, ground := Ground.phase }, { on := 8, ground := Ground.phase }, { on := 9, ground := Ground.phase }], guard := none }) (clo_SG _ _ _ _) rfl rfl rfl (by kernel_rfl) (by kernel_rfl) (by kernel_rfl) (by kernel_rfl) (by kernel_rfl) (fun _ _ _ h => by cases h.1) (YG.val (by rfl) (fun _ _ => by go_simp)) ?_
  simp only [Act.put, List.setIfInBounds_toArray, List.set_cons_zero, List.set_cons_succ]
  refine wpX_take 5 (v := .slice a n c) (oi := { dst := some 24, op := Op.load 24 (Operand.tmp 23), type := 24, pos := "wire.go:23", after := #[{ on := 4, ground := Ground.data }, { on := 9, ground := Ground.gcOnly Departure.lateStores }], guard := none }) (oL := { dst := none, op := Op.store 24 (Operand.tmp 27) (Operand.tmp 24), type := 0, pos := "wire.go:23", after := #[{ on := 10, ground := Ground.data }, { on := 5, ground := Ground.data }, { on := 9, ground := Ground.chain }, { on := 0, ground := Ground.phase }, { on := 1, ground := Ground.phase }, { on := 2, ground := Ground.phase }, { on := 3, ground := Ground.phase }, { on := 4, ground := Ground.phase }, { on := 5, ground := Ground.phase }, { on := 6, ground := Ground.phase }, { on := 7, ground := Ground.phase }, { on := 8, ground := Ground.phase }, { on := 9, ground := Ground.phase }], guard := none }) (clo_SG _ _ _ _) rfl rfl rfl (by kernel_rfl) (by kernel_rfl) (by kernel_rfl) (by kernel_rfl) (by kernel_rfl) (fun _ _ _ h => by cases h.1) (YG.val (by rfl) (fun u hu => by have c := rq_cell (R3.out.ch hu.1 (fun h => by have h1 := HB.out; have h2 := HB3.out; omega)) HX.out 5; simp at c; go_simp)) ?_
  simp only [Act.put, List.setIfInBounds_toArray, List.set_cons_zero, List.set_cons_succ]
  refine wpX_take 6 (v := .pointer (some ⟨b3, 17, none⟩)) (oi := { dst := some 25, op := Op.fieldAddr 43 (Operand.tmp 3) 2, type := 0, pos := "wire.go:23", after := #[{ on := 0, ground := Ground.phase }, { on := 1, ground := Ground.phase }, { on := 2, ground := Ground.textOnly Departure.lateStores }, { on := 3, ground := Ground.textOnly Departure.lateStores }, { on := 4, ground := Ground.textOnly Departure.lateStores }, { on := 5, ground := Ground.textOnly Departure.lateStores }], guard := none }) (oL := { dst := none, op := Op.store 24 (Operand.tmp 27) (Operand.tmp 24), type := 0, pos := "wire.go:23", after := #[{ on := 10, ground := Ground.data }, { on := 5, ground := Ground.data }, { on := 9, ground := Ground.chain }, { on := 0, ground := Ground.phase }, { on := 1, ground := Ground.phase }, { on := 2, ground := Ground.phase }, { on := 3, ground := Ground.phase }, { on := 4, ground := Ground.phase }, { on := 5, ground := Ground.phase }, { on := 6, ground := Ground.phase }, { on := 7, ground := Ground.phase }, { on := 8, ground := Ground.phase }, { on := 9, ground := Ground.phase }], guard := none }) (clo_SG _ _ _ _) rfl rfl rfl (by kernel_rfl) (by kernel_rfl) (by kernel_rfl) (by kernel_rfl) (by kernel_rfl) (fun _ _ _ h => by cases h.1) (YG.val (by rfl) (fun _ _ => by go_simp)) ?_
  simp only [Act.put, List.setIfInBounds_toArray, List.set_cons_zero, List.set_cons_succ]
  refine wpX_step 7 (o := { dst := none, op := Op.store 3 (Operand.tmp 25) (Operand.tmp 20), type := 0, pos := "wire.go:23", after := #[{ on := 6, ground := Ground.data }, { on := 1, ground := Ground.data }, { on := 0, ground := Ground.phase }, { on := 1, ground := Ground.phase }, { on := 2, ground := Ground.textOnly Departure.lateStores }, { on := 3, ground := Ground.textOnly Departure.lateStores }, { on := 4, ground := Ground.textOnly Departure.lateStores }, { on := 5, ground := Ground.textOnly Departure.lateStores }], guard := none }) rfl rfl (by kernel_rfl) (by rfl) (fun u0 hS0 K0 hK0 => ?_)
  have HK0 := Lib.hid hK0
  have HS0 := Lib.hid hS0
  clear hK0 hS0
  obtain ⟨x0, x1, x2, x3, x4, x5, hT, hr⟩ := HS0.out.2
  obtain ⟨rfl, rfl⟩ := hT
  have cv := Row.cell hr 17
  have fv := Row.frozen hr 17
  rw [show 17 = 17 + 0 from rfl, rqG_get _ _ _ _ _ _ _ HX.out] at cv
  simp at cv
  refine wp_skip_opU (w1 := u0.setCell ⟨b3, 17, none⟩ (.int .i64 q.number)) (by go_simp) ?_
  obtain ⟨v0, hv0⟩ : ∃ v0, v0 = u0.setCell ⟨b3, 17, none⟩ (.int .i64 q.number) := ⟨_, rfl⟩
  rw [← hv0]
  have gv : u0.grownBy v0 (some b3) := hv0 ▸ grownBy_setCell _ _ _ _
  have rv : Row v0 b3 43 (rqG q (.int .i64 q.number) (.int .i64 0) (.int .i64 0) (x3) (x4) (x5)) := by
    have h := Row.setc hr 17 (.int .i64 q.number)
    rw [show 17 = 17 + 0 from rfl, rqG_set _ _ _ _ _ _ _ HX.out] at h
    rw [hv0]
    exact h
  clear cv fv
  refine HK0.out (SG b3 w3 q (fun x0 x1 x2 x3 x4 x5 => x0 = .int .i64 q.number ∧ x1 = .int .i64 0 ∧ x2 = .int .i64 0)) _ _ ⟨HS0.out.1.trans (Ch.ofSome (S := fun x => x = b3) gv rfl) (fun _ _ h => h), _, _, _, _, _, _, ⟨rfl, rfl, rfl⟩, rv⟩ (fun u h => ⟨h.1, by
    obtain ⟨y0, y1, y2, y3, y4, y5, hT, hr⟩ := h.2
    exact ⟨y0, y1, y2, y3, y4, y5, by simp only [hT, and_self], hr⟩⟩) (clo_SG _ _ _ _) ?_
  simp only [Act.put, List.setIfInBounds_toArray, List.set_cons_zero, List.set_cons_succ]
  clear HK0 HS0 hr gv rv hv0
  refine wpX_take 8 (v := .pointer (some ⟨b3, 20, none⟩)) (oi := { dst := some 26, op := Op.fieldAddr 43 (Operand.tmp 3) 5, type := 0, pos := "wire.go:23", after := #[{ on := 0, ground := Ground.phase }, { on := 1, ground := Ground.phase }, { on := 2, ground := Ground.phase }, { on := 3, ground := Ground.phase }, { on := 4, ground := Ground.textOnly Departure.lateStores }, { on := 5, ground := Ground.textOnly Departure.lateStores }, { on := 6, ground := Ground.phase }, { on := 7, ground := Ground.phase }], guard := none }) (oL := { dst := none, op := Op.store 24 (Operand.tmp 27) (Operand.tmp 24), type := 0, pos := "wire.go:23", after := #[{ on := 10, ground := Ground.data }, { on := 5, ground := Ground.data }, { on := 9, ground := Ground.chain }, { on := 0, ground := Ground.phase }, { on := 1, ground := Ground.phase }, { on := 2, ground := Ground.phase }, { on := 3, ground := Ground.phase }, { on := 4, ground := Ground.phase }, { on := 5, ground := Ground.phase }, { on := 6, ground := Ground.phase }, { on := 7, ground := Ground.phase }, { on := 8, ground := Ground.phase }, { on := 9, ground := Ground.phase }], guard := none }) (clo_SG _ _ _ _) rfl rfl rfl (by kernel_rfl) (by kernel_rfl) (by kernel_rfl) (by kernel_rfl) (by kernel_rfl) (fun _ _ _ h => by cases h.1) (YG.val (by rfl) (fun _ _ => by go_simp)) ?_
  simp only [Act.put, List.setIfInBounds_toArray, List.set_cons_zero, List.set_cons_succ]
  refine wpX_step 9 (o := { dst := none, op := Op.store 41 (Operand.tmp 26) (Operand.tmp 22), type := 0, pos := "wire.go:23", after := #[{ on := 8, ground := Ground.data }, { on := 3, ground := Ground.data }, { on := 7, ground := Ground.chain }, { on := 0, ground := Ground.phase }, { on := 1, ground := Ground.phase }, { on := 2, ground := Ground.phase }, { on := 3, ground := Ground.phase }, { on := 4, ground := Ground.textOnly Departure.lateStores }, { on := 5, ground := Ground.textOnly Departure.lateStores }, { on := 6, ground := Ground.phase }, { on := 7, ground := Ground.phase }], guard := none }) rfl rfl (by kernel_rfl) (by rfl) (fun u1 hS1 K1 hK1 => ?_)
  have HK1 := Lib.hid hK1
  have HS1 := Lib.hid hS1
  clear hK1 hS1
  obtain ⟨x0, x1, x2, x3, x4, x5, hT, hr⟩ := HS1.out.2
  obtain ⟨rfl, rfl, rfl⟩ := hT
  refine wp_store_mid 41 _ _ rfl b3 20 #[.int .u32 (q.who : Int), .int .i64 q.till] rfl rfl (rqG_there hr HX.out 3 2 (by omega)) (by rw [size_lease]; rfl) (by simp [Value.oneCell']) ?_
  obtain ⟨v1, hv1⟩ : ∃ v1, v1 = u1.setCells b3 20 [.int .u32 (q.who : Int), .int .i64 q.till] := ⟨_, rfl⟩
  have gv : u1.grownBy v1 (some b3) := hv1 ▸ grownBy_setCellsR _ _ _ _
  have rv : Row v1 b3 43 (rqG q (.int .i64 q.number) (.int .i64 0) (.int .i64 0) (.int .u32 (q.who : Int)) (.int .i64 q.till) (x5)) := by
    have h := Row.setcs b3 43 [.int .u32 (q.who : Int), .int .i64 q.till] 20 u1 _ hr
    unfold laidR laidR laidR at h
    rw [show 20 = 17 + 3 from rfl, rqG_set _ _ _ _ _ _ _ HX.out] at h
    have h2 : Row _ b3 43 ((rqG q (.int .i64 q.number) (.int .i64 0) (.int .i64 0) (.int .u32 (q.who : Int)) (x4) (x5)).setIfInBounds (17 + 4) (.int .i64 q.till)) := h
    rw [rqG_set _ _ _ _ _ _ _ HX.out] at h2
    rw [hv1]
    exact h2
  show K1 _ (u1.setCells b3 20 [.int .u32 (q.who : Int), .int .i64 q.till])
  rw [← hv1]
  refine HK1.out (SG b3 w3 q (fun x0 x1 x2 x3 x4 x5 => x0 = .int .i64 q.number ∧ x1 = .int .i64 0 ∧ x2 = .int .i64 0 ∧ x3 = .int .u32 (q.who : Int) ∧ x4 = .int .i64 q.till)) _ _ ⟨HS1.out.1.trans (Ch.ofSome (S := fun x => x = b3) gv rfl) (fun _ _ h => h), _, _, _, _, _, _, ⟨rfl, rfl, rfl, rfl, rfl⟩, rv⟩ (fun u h => ⟨h.1, by
    obtain ⟨y0, y1, y2, y3, y4, y5, hT, hr⟩ := h.2
    exact ⟨y0, y1, y2, y3, y4, y5, by simp only [hT, and_self], hr⟩⟩) (clo_SG _ _ _ _) ?_
  simp only [Act.put, List.setIfInBounds_toArray, List.set_cons_zero, List.set_cons_succ]
  clear HK1 HS1 hr gv rv hv1
  refine wpX_take 10 (v := .pointer (some ⟨b3, 22, none⟩)) (oi := { dst := some 27, op := Op.fieldAddr 43 (Operand.tmp 3) 6, type := 0, pos := "wire.go:23", after := #[{ on := 0, ground := Ground.phase }, { on := 1, ground := Ground.phase }, { on := 2, ground := Ground.phase }, { on := 3, ground := Ground.phase }, { on := 4, ground := Ground.phase }, { on := 5, ground := Ground.phase }, { on := 6, ground := Ground.phase }, { on := 7, ground := Ground.phase }, { on := 8, ground := Ground.phase }, { on := 9, ground := Ground.phase }], guard := none }) (oL := { dst := none, op := Op.store 24 (Operand.tmp 27) (Operand.tmp 24), type := 0, pos := "wire.go:23", after := #[{ on := 10, ground := Ground.data }, { on := 5, ground := Ground.data }, { on := 9, ground := Ground.chain }, { on := 0, ground := Ground.phase }, { on := 1, ground := Ground.phase }, { on := 2, ground := Ground.phase }, { on := 3, ground := Ground.phase }, { on := 4, ground := Ground.phase }, { on := 5, ground := Ground.phase }, { on := 6, ground := Ground.phase }, { on := 7, ground := Ground.phase }, { on := 8, ground := Ground.phase }, { on := 9, ground := Ground.phase }], guard := none }) (clo_SG _ _ _ _) rfl rfl rfl (by kernel_rfl) (by kernel_rfl) (by kernel_rfl) (by kernel_rfl) (by kernel_rfl) (fun _ _ _ h => by cases h.1) (YG.val (by rfl) (fun _ _ => by go_simp)) ?_
  simp only [Act.put, List.setIfInBounds_toArray, List.set_cons_zero, List.set_cons_succ]
  refine wpX_last (oL := { dst := none, op := Op.store 24 (Operand.tmp 27) (Operand.tmp 24), type := 0, pos := "wire.go:23", after := #[{ on := 10, ground := Ground.data }, { on := 5, ground := Ground.data }, { on := 9, ground := Ground.chain }, { on := 0, ground := Ground.phase }, { on := 1, ground := Ground.phase }, { on := 2, ground := Ground.phase }, { on := 3, ground := Ground.phase }, { on := 4, ground := Ground.phase }, { on := 5, ground := Ground.phase }, { on := 6, ground := Ground.phase }, { on := 7, ground := Ground.phase }, { on := 8, ground := Ground.phase }, { on := 9, ground := Ground.phase }], guard := none }) rfl (by kernel_rfl) (by kernel_rfl) (by rfl) (fun u2 hS2 K2 hK2 => ?_)
  have HK2 := Lib.hid hK2
  have HS2 := Lib.hid hS2
  clear hK2 hS2
  obtain ⟨x0, x1, x2, x3, x4, x5, hT, hr⟩ := HS2.out.2
  obtain ⟨rfl, rfl, rfl, rfl, rfl⟩ := hT
  have cv := Row.cell hr 22
  have fv := Row.frozen hr 22
  rw [show 22 = 17 + 5 from rfl, rqG_get _ _ _ _ _ _ _ HX.out] at cv
  simp at cv
  refine wp_skip_opU (w1 := u2.setCell ⟨b3, 22, none⟩ (.slice a n c)) (by go_simp) ?_
  obtain ⟨v2, hv2⟩ : ∃ v2, v2 = u2.setCell ⟨b3, 22, none⟩ (.slice a n c) := ⟨_, rfl⟩
  rw [← hv2]
  have gv : u2.grownBy v2 (some b3) := hv2 ▸ grownBy_setCell _ _ _ _
  have rv : Row v2 b3 43 (rqG q (.int .i64 q.number) (.int .i64 0) (.int .i64 0) (.int .u32 (q.who : Int)) (.int .i64 q.till) (.slice a n c)) := by
    have h := Row.setc hr 22 (.slice a n c)
    rw [show 22 = 17 + 5 from rfl, rqG_set _ _ _ _ _ _ _ HX.out] at h
    rw [hv2]
    exact h
  clear cv fv
  have HCE := Lib.hid (HS2.out.1.trans (Ch.ofSome (S := fun x => x = b3) gv rfl) (fun _ _ h => h))
  have HRV := Lib.hid rv
  refine HK2.out _ _ ?_
  simp only [Act.put, List.setIfInBounds_toArray, List.set_cons_zero, List.set_cons_succ]
  clear HK2 HS2 hr gv rv hv2
  refine ⟨by first | rfl | trivial, ?_⟩
  have RSE := Lib.hid (RS.out.ch HCE.out (fun h => by have := HB3.out; omega))
  have GE := Lib.hid (Ch.fresh G3.out HCE.out (fun y hy h => by have h1 := HB.out; have h2 := HB3.out; omega))
  have RBE := Lib.hid (show Row v2 b3 43 (rqC ({ bareQ q with number := q.number, who := q.who, till := q.till }) (.slice a n c)) from HRV.out)
  go_wp2_with (first
    | (refine wpList_load_row rfl 43 _ rfl b3 rfl 43 (rqC ({ bareQ q with number := q.number, who := q.who, till := q.till }) (.slice a n c)) (0, 0) _ RBE.out Try.underlying43 rfl (by rw [size_req]; exact congrArg some (rq_len ({ bareQ q with number := q.number, who := q.who, till := q.till }) _ HX.out).symm) ?_)
    | (refine wpList_putrow rfl rfl b2 rfl (rqC ({ bareQ q with number := q.number, who := q.who, till := q.till }) (.slice a n c)) rfl RSE.out (by rw [size_req]; exact congrArg some (rq_len ({ bareQ q with number := q.number, who := q.who, till := q.till }) _ HX.out).symm) (rq_len ({ bareQ q with number := q.number, who := q.who, till := q.till }) _ HX.out).symm (rq_one _ _ _ _) ?_; intro W6 hg6 hr6; have HG6 := Lib.hid hg6; have HR6 := Lib.hid hr6; clear hg6 hr6))
  refine bodyPost_ret (results_cell1 rfl _ _ b2 43 (rqC ({ bareQ q with number := q.number, who := q.who, till := q.till }) (.slice a n c)) (0, 0) _ rfl HR6.out Try.underlying43 rfl (by rw [size_req]; exact congrArg some (rq_len ({ bareQ q with number := q.number, who := q.who, till := q.till }) _ HX.out).symm)) rfl ?_
  exact ⟨rfl, grownBy_old GE.out HG6.out (by have := HB.out; omega)⟩
set_option maxRecDepth 100000 in
set_option maxHeartbeats 4000000 in
theorem used_3 (K : Int) (q : Rq) (a : Option Addr) (n c : Nat) (w : World) (hx : q.ix.length = 16) (hk : q.kind = 3) :
    Calls Try.prog 57 #[.agg (rqC q (.slice a n c))] w fun e w' => e = .returned (.agg (rqC ({ bareQ q with number := q.number, pos := q.pos, len := q.len }) (.slice none 0 0))) ∧ w.grownBy w' none := by
  have HKQ := Lib.hid hk
  clear hk
  obtain ⟨ir, zr, hir, hirz, hirs, hz⟩ := info_req
  subst hz
  have HX := Lib.hid hx
  clear hx
  go_enter Try.func57, Try.ntmps57
  go_upto_region 1 with (first
    | (refine wpList_boxed rfl rfl (rqC q (.slice a n c)) rfl ?_; intro w1 hs g hr; have G1 := Lib.hid g; have R1 := Lib.hid (show Row w1 w.heap.size 43 (rqC q (.slice a n c)) from hr); clear hs g hr)
    | (refine wpList_made rfl rfl hir hirz ?_; intro w2 hs g hr; have G2 := Lib.hid (grownBy_trans G1.out g); have R2 := Lib.hid (R1.out.grown g); have RR := Lib.hid (show Row w2 w1.heap.size 43 #[.int .u8 0, .int .u8 0, .int .u8 0, .int .u8 0, .int .u8 0, .int .u8 0, .int .u8 0, .int .u8 0, .int .u8 0, .int .u8 0, .int .u8 0, .int .u8 0, .int .u8 0, .int .u8 0, .int .u8 0, .int .u8 0, .int .u8 0, .int .i64 0, .int .i64 0, .int .i64 0, .int .u32 0, .int .i64 0, .slice none 0 0] from hr); clear hs g hr))
  obtain ⟨b1, hb1⟩ : ∃ b1, b1 = w.heap.size := ⟨_, rfl⟩
  obtain ⟨b2, hb2⟩ : ∃ b2, b2 = w1.heap.size := ⟨_, rfl⟩
  have HB := Lib.hid (show w.heap.size ≤ b1 ∧ b1 < b2 ∧ b2 < w2.heap.size from ⟨by omega, by rw [hb1, hb2]; exact R1.out.lt, by rw [hb2]; exact RR.out.lt⟩)
  rw [← hb1] at R2 ⊢
  rw [← hb2] at RR ⊢
  clear hb1 hb2 R1 G1
  have c0 := rq_kind R2.out
  go_upto_region 2 with (first
    | (refine wpList_load_mid rfl 38 _ rfl b1 1 rfl (q.ix.map bval) _ (rq_ixr R2.out) Try.underlying38 rfl (by rw [size_ix, List.length_map, HX.out]) ?_)
    | (refine wpList_valp rfl (run_build_req _ _ (.tmp 5) (.tmp 7) rfl q.kind q.ix HX.out rfl rfl) ?_)
    | (refine wpList_fresh rfl rfl rfl rfl rfl hir hirz hirs (rqC (bareQ q) (.slice none 0 0)) rfl rfl (by rw [rq_len (bareQ q) _ HX.out]; rfl) (rq_one _ _ _ _) ?_; intro w3 hs g hr; have G3 := Lib.hid (grownBy_trans G2.out g); have R3 := Lib.hid (R2.out.grown g); have RS := Lib.hid (RR.out.grown g); have RB := Lib.hid (show Row w3 w2.heap.size 43 (rqC (bareQ q) (.slice none 0 0)) from hr); clear hs g hr))
  obtain ⟨b3, hb3⟩ : ∃ b3, b3 = w2.heap.size := ⟨_, rfl⟩
  have HB3 := Lib.hid (show b2 < b3 by rw [hb3]; exact HB.out.2.2)
  rw [← hb3] at RB ⊢
  clear hb3 R2 RR c0
  have c0 := rq_kind R3.out
  have c0' : w3.cell? ⟨b1, 0, none⟩ = some (.int .u8 3) := by rw [c0, HKQ.out]; rfl
  clear c0
  go_upto_region 8 with fail
  refine wp_normalR ?_
  refine wp_regionX (SG b3 w3 q (fun x0 x1 x2 x3 x4 x5 => x3 = .int .u32 0 ∧ x4 = .int .i64 0 ∧ x5 = .slice none 0 0)) 11 (by kernel_rfl) ⟨Ch.ofNone (grownBy_drewN w3 1 none) _, _, _, _, _, _, _, ⟨rfl, rfl, rfl⟩, (show Row w3 b3 43 (rqG q (.int .i64 0) (.int .i64 0) (.int .i64 0) (.int .u32 0) (.int .i64 0) (.slice none 0 0)) from RB.out).grown (grownBy_drewN w3 1 none)⟩ ?_
  refine wpX_take 0 (v := .pointer (some ⟨b1, 17, none⟩)) (oi := { dst := some 28, op := Op.fieldAddr 43 (Operand.tmp 1) 2, type := 0, pos := "wire.go:25", after := #[], guard := none }) (oL := { dst := none, op := Op.store 3 (Operand.tmp 36) (Operand.tmp 33), type := 0, pos := "wire.go:25", after := #[{ on := 10, ground := Ground.data }, { on := 5, ground := Ground.data }, { on := 9, ground := Ground.chain }, { on := 0, ground := Ground.phase }, { on := 1, ground := Ground.phase }, { on := 2, ground := Ground.phase }, { on := 3, ground := Ground.phase }, { on := 4, ground := Ground.phase }, { on := 5, ground := Ground.phase }, { on := 6, ground := Ground.phase }, { on := 7, ground := Ground.phase }, { on := 8, ground := Ground.phase }, { on := 9, ground := Ground.phase }], guard := none }) (clo_SG _ _ _ _) rfl rfl rfl (by kernel_rfl) (by kernel_rfl) (by kernel_rfl) (by kernel_rfl) (by kernel_rfl) (fun _ _ _ h => by cases h.1) (YG.val (by rfl) (fun _ _ => by go_simp)) ?_
  simp only [Act.put, List.setIfInBounds_toArray, List.set_cons_zero, List.set_cons_succ]
  refine wpX_take 1 (v := .int .i64 q.number) (oi := { dst := some 29, op := Op.load 3 (Operand.tmp 28), type := 3, pos := "wire.go:25", after := #[{ on := 0, ground := Ground.data }], guard := none }) (oL := { dst := none, op := Op.store 3 (Operand.tmp 36) (Operand.tmp 33), type := 0, pos := "wire.go:25", after := #[{ on := 10, ground := Ground.data }, { on := 5, ground := Ground.data }, { on := 9, ground := Ground.chain }, { on := 0, ground := Ground.phase }, { on := 1, ground := Ground.phase }, { on := 2, ground := Ground.phase }, { on := 3, ground := Ground.phase }, { on := 4, ground := Ground.phase }, { on := 5, ground := Ground.phase }, { on := 6, ground := Ground.phase }, { on := 7, ground := Ground.phase }, { on := 8, ground := Ground.phase }, { on := 9, ground := Ground.phase }], guard := none }) (clo_SG _ _ _ _) rfl rfl rfl (by kernel_rfl) (by kernel_rfl) (by kernel_rfl) (by kernel_rfl) (by kernel_rfl) (fun _ _ _ h => by cases h.1) (YG.val (by rfl) (fun u hu => by have c := rq_cell (R3.out.ch hu.1 (fun h => by have h1 := HB.out; have h2 := HB3.out; omega)) HX.out 0; simp at c; go_simp)) ?_
  simp only [Act.put, List.setIfInBounds_toArray, List.set_cons_zero, List.set_cons_succ]
  refine wpX_take 2 (v := .pointer (some ⟨b1, 18, none⟩)) (oi := { dst := some 30, op := Op.fieldAddr 43 (Operand.tmp 1) 3, type := 0, pos := "wire.go:25", after := #[{ on := 7, ground := Ground.gcOnly Departure.lateStores }], guard := none }) (oL := { dst := none, op := Op.store 3 (Operand.tmp 36) (Operand.tmp 33), type := 0, pos := "wire.go:25", after := #[{ on := 10, ground := Ground.data }, { on := 5, ground := Ground.data }, { on := 9, ground := Ground.chain }, { on := 0, ground := Ground.phase }, { on := 1, ground := Ground.phase }, { on := 2, ground := Ground.phase }, { on := 3, ground := Ground.phase }, { on := 4, ground := Ground.phase }, { on := 5, ground := Ground.phase }, { on := 6, ground := Ground.phase }, { on := 7, ground := Ground.phase }, { on := 8, ground := Ground.phase }, { on := 9, ground := Ground.phase }], guard := none }) (clo_SG _ _ _ _) rfl rfl rfl (by kernel_rfl) (by kernel_rfl) (by kernel_rfl) (by kernel_rfl) (by kernel_rfl) (fun _ _ _ h => by cases h.1) (YG.val (by rfl) (fun _ _ => by go_simp)) ?_
  simp only [Act.put, List.setIfInBounds_toArray, List.set_cons_zero, List.set_cons_succ]
  refine wpX_take 3 (v := .int .i64 q.pos) (oi := { dst := some 31, op := Op.load 3 (Operand.tmp 30), type := 3, pos := "wire.go:25", after := #[{ on := 2, ground := Ground.data }, { on := 7, ground := Ground.gcOnly Departure.lateStores }], guard := none }) (oL := { dst := none, op := Op.store 3 (Operand.tmp 36) (Operand.tmp 33), type := 0, pos := "wire.go:25", after := #[{ on := 10, ground := Ground.data }, { on := 5, ground := Ground.data }, { on := 9, ground := Ground.chain }, { on := 0, ground := Ground.phase }, { on := 1, ground := Ground.phase }, { on := 2, ground := Ground.phase }, { on := 3, ground := Ground.phase }, { on := 4, ground := Ground.phase }, { on := 5, ground := Ground.phase }, { on := 6, ground := Ground.phase }, { on := 7, ground := Ground.phase }, { on := 8, ground := Ground.phase }, { on := 9, ground := Ground.phase }], guard := none }) (clo_SG _ _ _ _) rfl rfl rfl (by kernel_rfl) (by kernel_rfl) (by kernel_rfl) (by kernel_rfl) (by kernel_rfl) (fun _ _ _ h => by cases h.1) (YG.val (by rfl) (fun u hu => by have c := rq_cell (R3.out.ch hu.1 (fun h => by have h1 := HB.out; have h2 := HB3.out; omega)) HX.out 1; simp at c; go_simp)) ?_
  simp only [Act.put, List.setIfInBounds_toArray, List.set_cons_zero, List.set_cons_succ]
  refine wpX_take 4 (v := .pointer (some ⟨b1, 19, none⟩)) (oi := { dst := some 32, op := Op.fieldAddr 43 (Operand.tmp 1) 4, type := 0, pos := "wire.go:25", after := #[{ on := 9, ground := Ground.gcOnly Departure.lateStores }], guard := none }) (oL := { dst := none, op := Op.store 3 (Operand.tmp 36) (Operand.tmp 33), type := 0, pos := "wire.go:25", after := #[{ on := 10, ground := Ground.data }, { on := 5, ground := Ground.data }, { on := 9, ground := Ground.chain }, { on := 0, ground := Ground.phase }, { on := 1, ground := Ground.phase }, { on := 2, ground := Ground.phase }, { on := 3, ground := Ground.phase }, { on := 4, ground := Ground.phase }, { on := 5, ground := Ground.phase }, { on := 6, ground := Ground.phase }, { on := 7, ground := Ground.phase }, { on := 8, ground := Ground.phase }, { on := 9, ground := Ground.phase }], guard := none }) (clo_SG _ _ _ _) rfl rfl rfl (by kernel_rfl) (by kernel_rfl) (by kernel_rfl) (by kernel_rfl) (by kernel_rfl) (fun _ _ _ h => by cases h.1) (YG.val (by rfl) (fun _ _ => by go_simp)) ?_
  simp only [Act.put, List.setIfInBounds_toArray, List.set_cons_zero, List.set_cons_succ]
  refine wpX_take 5 (v := .int .i64 q.len) (oi := { dst := some 33, op := Op.load 3 (Operand.tmp 32), type := 3, pos := "wire.go:25", after := #[{ on := 4, ground := Ground.data }, { on := 9, ground := Ground.gcOnly Departure.lateStores }], guard := none }) (oL := { dst := none, op := Op.store 3 (Operand.tmp 36) (Operand.tmp 33), type := 0, pos := "wire.go:25", after := #[{ on := 10, ground := Ground.data }, { on := 5, ground := Ground.data }, { on := 9, ground := Ground.chain }, { on := 0, ground := Ground.phase }, { on := 1, ground := Ground.phase }, { on := 2, ground := Ground.phase }, { on := 3, ground := Ground.phase }, { on := 4, ground := Ground.phase }, { on := 5, ground := Ground.phase }, { on := 6, ground := Ground.phase }, { on := 7, ground := Ground.phase }, { on := 8, ground := Ground.phase }, { on := 9, ground := Ground.phase }], guard := none }) (clo_SG _ _ _ _) rfl rfl rfl (by kernel_rfl) (by kernel_rfl) (by kernel_rfl) (by kernel_rfl) (by kernel_rfl) (fun _ _ _ h => by cases h.1) (YG.val (by rfl) (fun u hu => by have c := rq_cell (R3.out.ch hu.1 (fun h => by have h1 := HB.out; have h2 := HB3.out; omega)) HX.out 2; simp at c; go_simp)) ?_
  simp only [Act.put, List.setIfInBounds_toArray, List.set_cons_zero, List.set_cons_succ]
  refine wpX_take 6 (v := .pointer (some ⟨b3, 17, none⟩)) (oi := { dst := some 34, op := Op.fieldAddr 43 (Operand.tmp 3) 2, type := 0, pos := "wire.go:25", after := #[{ on := 0, ground := Ground.phase }, { on := 1, ground := Ground.phase }, { on := 2, ground := Ground.textOnly Departure.lateStores }, { on := 3, ground := Ground.textOnly Departure.lateStores }, { on := 4, ground := Ground.textOnly Departure.lateStores }, { on := 5, ground := Ground.textOnly Departure.lateStores }], guard := none }) (oL := { dst := none, op := Op.store 3 (Operand.tmp 36) (Operand.tmp 33), type := 0, pos := "wire.go:25", after := #[{ on := 10, ground := Ground.data }, { on := 5, ground := Ground.data }, { on := 9, ground := Ground.chain }, { on := 0, ground := Ground.phase }, { on := 1, ground := Ground.phase }, { on := 2, ground := Ground.phase }, { on := 3, ground := Ground.phase }, { on := 4, ground := Ground.phase }, { on := 5, ground := Ground.phase }, { on := 6, ground := Ground.phase }, { on := 7, ground := Ground.phase }, { on := 8, ground := Ground.phase }, { on := 9, ground := Ground.phase }], guard := none }) (clo_SG _ _ _ _) rfl rfl rfl (by kernel_rfl) (by kernel_rfl) (by kernel_rfl) (by kernel_rfl) (by kernel_rfl) (fun _ _ _ h => by cases h.1) (YG.val (by rfl) (fun _ _ => by go_simp)) ?_
  simp only [Act.put, List.setIfInBounds_toArray, List.set_cons_zero, List.set_cons_succ]
  refine wpX_step 7 (o := { dst := none, op := Op.store 3 (Operand.tmp 34) (Operand.tmp 29), type := 0, pos := "wire.go:25", after := #[{ on := 6, ground := Ground.data }, { on := 1, ground := Ground.data }, { on := 0, ground := Ground.phase }, { on := 1, ground := Ground.phase }, { on := 2, ground := Ground.textOnly Departure.lateStores }, { on := 3, ground := Ground.textOnly Departure.lateStores }, { on := 4, ground := Ground.textOnly Departure.lateStores }, { on := 5, ground := Ground.textOnly Departure.lateStores }], guard := none }) rfl rfl (by kernel_rfl) (by rfl) (fun u0 hS0 K0 hK0 => ?_)
  have HK0 := Lib.hid hK0
  have HS0 := Lib.hid hS0
  clear hK0 hS0
  obtain ⟨x0, x1, x2, x3, x4, x5, hT, hr⟩ := HS0.out.2
  obtain ⟨rfl, rfl, rfl⟩ := hT
  have cv := Row.cell hr 17
  have fv := Row.frozen hr 17
  rw [show 17 = 17 + 0 from rfl, rqG_get _ _ _ _ _ _ _ HX.out] at cv
  simp at cv
  refine wp_skip_opU (w1 := u0.setCell ⟨b3, 17, none⟩ (.int .i64 q.number)) (by go_simp) ?_
  obtain ⟨v0, hv0⟩ : ∃ v0, v0 = u0.setCell ⟨b3, 17, none⟩ (.int .i64 q.number) := ⟨_, rfl⟩
  rw [← hv0]
  have gv : u0.grownBy v0 (some b3) := hv0 ▸ grownBy_setCell _ _ _ _
  have rv : Row v0 b3 43 (rqG q (.int .i64 q.number) (x1) (x2) (.int .u32 0) (.int .i64 0) (.slice none 0 0)) := by
    have h := Row.setc hr 17 (.int .i64 q.number)
    rw [show 17 = 17 + 0 from rfl, rqG_set _ _ _ _ _ _ _ HX.out] at h
    rw [hv0]
    exact h
  clear cv fv
  refine HK0.out (SG b3 w3 q (fun x0 x1 x2 x3 x4 x5 => x0 = .int .i64 q.number ∧ x3 = .int .u32 0 ∧ x4 = .int .i64 0 ∧ x5 = .slice none 0 0)) _ _ ⟨HS0.out.1.trans (Ch.ofSome (S := fun x => x = b3) gv rfl) (fun _ _ h => h), _, _, _, _, _, _, ⟨rfl, rfl, rfl, rfl⟩, rv⟩ (fun u h => ⟨h.1, by
    obtain ⟨y0, y1, y2, y3, y4, y5, hT, hr⟩ := h.2
    exact ⟨y0, y1, y2, y3, y4, y5, by simp only [hT, and_self], hr⟩⟩) (clo_SG _ _ _ _) ?_
  simp only [Act.put, List.setIfInBounds_toArray, List.set_cons_zero, List.set_cons_succ]
  clear HK0 HS0 hr gv rv hv0
  refine wpX_take 8 (v := .pointer (some ⟨b3, 18, none⟩)) (oi := { dst := some 35, op := Op.fieldAddr 43 (Operand.tmp 3) 3, type := 0, pos := "wire.go:25", after := #[{ on := 0, ground := Ground.phase }, { on := 1, ground := Ground.phase }, { on := 2, ground := Ground.phase }, { on := 3, ground := Ground.phase }, { on := 4, ground := Ground.textOnly Departure.lateStores }, { on := 5, ground := Ground.textOnly Departure.lateStores }, { on := 6, ground := Ground.phase }, { on := 7, ground := Ground.phase }], guard := none }) (oL := { dst := none, op := Op.store 3 (Operand.tmp 36) (Operand.tmp 33), type := 0, pos := "wire.go:25", after := #[{ on := 10, ground := Ground.data }, { on := 5, ground := Ground.data }, { on := 9, ground := Ground.chain }, { on := 0, ground := Ground.phase }, { on := 1, ground := Ground.phase }, { on := 2, ground := Ground.phase }, { on := 3, ground := Ground.phase }, { on := 4, ground := Ground.phase }, { on := 5, ground := Ground.phase }, { on := 6, ground := Ground.phase }, { on := 7, ground := Ground.phase }, { on := 8, ground := Ground.phase }, { on := 9, ground := Ground.phase }], guard := none }) (clo_SG _ _ _ _) rfl rfl rfl (by kernel_rfl) (by kernel_rfl) (by kernel_rfl) (by kernel_rfl) (by kernel_rfl) (fun _ _ _ h => by cases h.1) (YG.val (by rfl) (fun _ _ => by go_simp)) ?_
  simp only [Act.put, List.setIfInBounds_toArray, List.set_cons_zero, List.set_cons_succ]
  refine wpX_step 9 (o := { dst := none, op := Op.store 3 (Operand.tmp 35) (Operand.tmp 31), type := 0, pos := "wire.go:25", after := #[{ on := 8, ground := Ground.data }, { on := 3, ground := Ground.data }, { on := 7, ground := Ground.chain }, { on := 0, ground := Ground.phase }, { on := 1, ground := Ground.phase }, { on := 2, ground := Ground.phase }, { on := 3, ground := Ground.phase }, { on := 4, ground := Ground.textOnly Departure.lateStores }, { on := 5, ground := Ground.textOnly Departure.lateStores }, { on := 6, ground := Ground.phase }, { on := 7, ground := Ground.phase }], guard := none }) rfl rfl (by kernel_rfl) (by rfl) (fun u1 hS1 K1 hK1 => ?_)
  have HK1 := Lib.hid hK1
  have HS1 := Lib.hid hS1
  clear hK1 hS1
  obtain ⟨x0, x1, x2, x3, x4, x5, hT, hr⟩ := HS1.out.2
  obtain ⟨rfl, rfl, rfl, rfl⟩ := hT
  have cv := Row.cell hr 18
  have fv := Row.frozen hr 18
  rw [show 18 = 17 + 1 from rfl, rqG_get _ _ _ _ _ _ _ HX.out] at cv
  simp at cv
  refine wp_skip_opU (w1 := u1.setCell ⟨b3, 18, none⟩ (.int .i64 q.pos)) (by go_simp) ?_
  obtain ⟨v1, hv1⟩ : ∃ v1, v1 = u1.setCell ⟨b3, 18, none⟩ (.int .i64 q.pos) := ⟨_, rfl⟩
  rw [← hv1]
  have gv : u1.grownBy v1 (some b3) := hv1 ▸ grownBy_setCell _ _ _ _
  have rv : Row v1 b3 43 (rqG q (.int .i64 q.number) (.int .i64 q.pos) (x2) (.int .u32 0) (.int .i64 0) (.slice none 0 0)) := by
    have h := Row.setc hr 18 (.int .i64 q.pos)
    rw [show 18 = 17 + 1 from rfl, rqG_set _ _ _ _ _ _ _ HX.out] at h
    rw [hv1]
    exact h
  clear cv fv
  refine HK1.out (SG b3 w3 q (fun x0 x1 x2 x3 x4 x5 => x0 = .int .i64 q.number ∧ x1 = .int .i64 q.pos ∧ x3 = .int .u32 0 ∧ x4 = .int .i64 0 ∧ x5 = .slice none 0 0)) _ _ ⟨HS1.out.1.trans (Ch.ofSome (S := fun x => x = b3) gv rfl) (fun _ _ h => h), _, _, _, _, _, _, ⟨rfl, rfl, rfl, rfl, rfl⟩, rv⟩ (fun u h => ⟨h.1, by
    obtain ⟨y0, y1, y2, y3, y4, y5, hT, hr⟩ := h.2
    exact ⟨y0, y1, y2, y3, y4, y5, by simp only [hT, and_self], hr⟩⟩) (clo_SG _ _ _ _) ?_
  simp only [Act.put, List.setIfInBounds_toArray, List.set_cons_zero, List.set_cons_succ]
  clear HK1 HS1 hr gv rv hv1
  refine wpX_take 10 (v := .pointer (some ⟨b3, 19, none⟩)) (oi := { dst := some 36, op := Op.fieldAddr 43 (Operand.tmp 3) 4, type := 0, pos := "wire.go:25", after := #[{ on := 0, ground := Ground.phase }, { on := 1, ground := Ground.phase }, { on := 2, ground := Ground.phase }, { on := 3, ground := Ground.phase }, { on := 4, ground := Ground.phase }, { on := 5, ground := Ground.phase }, { on := 6, ground := Ground.phase }, { on := 7, ground := Ground.phase }, { on := 8, ground := Ground.phase }, { on := 9, ground := Ground.phase }], guard := none }) (oL := { dst := none, op := Op.store 3 (Operand.tmp 36) (Operand.tmp 33), type := 0, pos := "wire.go:25", after := #[{ on := 10, ground := Ground.data }, { on := 5, ground := Ground.data }, { on := 9, ground := Ground.chain }, { on := 0, ground := Ground.phase }, { on := 1, ground := Ground.phase }, { on := 2, ground := Ground.phase }, { on := 3, ground := Ground.phase }, { on := 4, ground := Ground.phase }, { on := 5, ground := Ground.phase }, { on := 6, ground := Ground.phase }, { on := 7, ground := Ground.phase }, { on := 8, ground := Ground.phase }, { on := 9, ground := Ground.phase }], guard := none }) (clo_SG _ _ _ _) rfl rfl rfl (by kernel_rfl) (by kernel_rfl) (by kernel_rfl) (by kernel_rfl) (by kernel_rfl) (fun _ _ _ h => by cases h.1) (YG.val (by rfl) (fun _ _ => by go_simp)) ?_
  simp only [Act.put, List.setIfInBounds_toArray, List.set_cons_zero, List.set_cons_succ]
  refine wpX_last (oL := { dst := none, op := Op.store 3 (Operand.tmp 36) (Operand.tmp 33), type := 0, pos := "wire.go:25", after := #[{ on := 10, ground := Ground.data }, { on := 5, ground := Ground.data }, { on := 9, ground := Ground.chain }, { on := 0, ground := Ground.phase }, { on := 1, ground := Ground.phase }, { on := 2, ground := Ground.phase }, { on := 3, ground := Ground.phase }, { on := 4, ground := Ground.phase }, { on := 5, ground := Ground.phase }, { on := 6, ground := Ground.phase }, { on := 7, ground := Ground.phase }, { on := 8, ground := Ground.phase }, { on := 9, ground := Ground.phase }], guard := none }) rfl (by kernel_rfl) (by kernel_rfl) (by rfl) (fun u2 hS2 K2 hK2 => ?_)
  have HK2 := Lib.hid hK2
  have HS2 := Lib.hid hS2
  clear hK2 hS2
  obtain ⟨x0, x1, x2, x3, x4, x5, hT, hr⟩ := HS2.out.2
  obtain ⟨rfl, rfl, rfl, rfl, rfl⟩ := hT
  have cv := Row.cell hr 19
  have fv := Row.frozen hr 19
  rw [show 19 = 17 + 2 from rfl, rqG_get _ _ _ _ _ _ _ HX.out] at cv
  simp at cv
  refine wp_skip_opU (w1 := u2.setCell ⟨b3, 19, none⟩ (.int .i64 q.len)) (by go_simp) ?_
  obtain ⟨v2, hv2⟩ : ∃ v2, v2 = u2.setCell ⟨b3, 19, none⟩ (.int .i64 q.len) := ⟨_, rfl⟩
  rw [← hv2]
  have gv : u2.grownBy v2 (some b3) := hv2 ▸ grownBy_setCell _ _ _ _
  have rv : Row v2 b3 43 (rqG q (.int .i64 q.number) (.int .i64 q.pos) (.int .i64 q.len) (.int .u32 0) (.int .i64 0) (.slice none 0 0)) := by
    have h := Row.setc hr 19 (.int .i64 q.len)
    rw [show 19 = 17 + 2 from rfl, rqG_set _ _ _ _ _ _ _ HX.out] at h
    rw [hv2]
    exact h
  clear cv fv
  have HCE := Lib.hid (HS2.out.1.trans (Ch.ofSome (S := fun x => x = b3) gv rfl) (fun _ _ h => h))
  have HRV := Lib.hid rv
  refine HK2.out _ _ ?_
  simp only [Act.put, List.setIfInBounds_toArray, List.set_cons_zero, List.set_cons_succ]
  clear HK2 HS2 hr gv rv hv2
  refine ⟨by first | rfl | trivial, ?_⟩
  have RSE := Lib.hid (RS.out.ch HCE.out (fun h => by have := HB3.out; omega))
  have GE := Lib.hid (Ch.fresh G3.out HCE.out (fun y hy h => by have h1 := HB.out; have h2 := HB3.out; omega))
  have RBE := Lib.hid (show Row v2 b3 43 (rqC ({ bareQ q with number := q.number, pos := q.pos, len := q.len }) (.slice none 0 0)) from HRV.out)
  go_wp2_with (first
    | (refine wpList_load_row rfl 43 _ rfl b3 rfl 43 (rqC ({ bareQ q with number := q.number, pos := q.pos, len := q.len }) (.slice none 0 0)) (0, 0) _ RBE.out Try.underlying43 rfl (by rw [size_req]; exact congrArg some (rq_len ({ bareQ q with number := q.number, pos := q.pos, len := q.len }) _ HX.out).symm) ?_)
    | (refine wpList_putrow rfl rfl b2 rfl (rqC ({ bareQ q with number := q.number, pos := q.pos, len := q.len }) (.slice none 0 0)) rfl RSE.out (by rw [size_req]; exact congrArg some (rq_len ({ bareQ q with number := q.number, pos := q.pos, len := q.len }) _ HX.out).symm) (rq_len ({ bareQ q with number := q.number, pos := q.pos, len := q.len }) _ HX.out).symm (rq_one _ _ _ _) ?_; intro W6 hg6 hr6; have HG6 := Lib.hid hg6; have HR6 := Lib.hid hr6; clear hg6 hr6))
  refine bodyPost_ret (results_cell1 rfl _ _ b2 43 (rqC ({ bareQ q with number := q.number, pos := q.pos, len := q.len }) (.slice none 0 0)) (0, 0) _ rfl HR6.out Try.underlying43 rfl (by rw [size_req]; exact congrArg some (rq_len ({ bareQ q with number := q.number, pos := q.pos, len := q.len }) _ HX.out).symm)) rfl ?_
  exact ⟨rfl, grownBy_old GE.out HG6.out (by have := HB.out; omega)⟩
end Go.Proofs.Ytkdmebcfedehiaa
/- wire.used of every request. -/
namespace Go.Proofs.Ytkdmebcfedehiaa
open Go.RowKit
theorem used_n (q : Rq) (a : Option Addr) (n c : Nat) (w : World) (hx : q.ix.length = 16) :
    Calls Try.prog 57 #[.agg (rqC q (.slice a n c))] w fun e w' => e = .returned (.agg (rqC (usedQ q) (usedS q (.slice a n c)))) ∧ w.grownBy w' none := by
  unfold usedQ usedS
  by_cases h2 : q.kind = 2
  · rw [if_pos h2, if_pos h2]
    exact used_2 0 q a n c w hx h2
  rw [if_neg h2, if_neg h2]
  by_cases h3 : q.kind = 3
  · rw [if_pos h3]
    exact used_3 0 q a n c w hx h3
  rw [if_neg h3]
  by_cases h4 : q.kind = 4
  · rw [if_pos h4]
    exact used_4 0 q a n c w hx h4
  rw [if_neg h4]
  by_cases h5 : q.kind = 5
  · rw [if_pos h5]
    exact used_5 0 q a n c w hx h5
  rw [if_neg h5]
  exact used_0 0 q a n c w hx h2 h3 h4 h5
end Go.Proofs.Ytkdmebcfedehiaa
/- Plain Lean: what mayAsk asks, one after the other, is whether a request may be. -/
namespace Go.Proofs.Ytkdmebcfedehiaa
open Go.RowKit
/-- nothing but what the kind uses -/
def SameU (q : Rq) : Prop := (usedQ q).number = q.number ∧ (usedQ q).pos = q.pos ∧ (usedQ q).len = q.len ∧ ((usedQ q).who = q.who ∧ (usedQ q).till = q.till) ∧ (q.kind = 2 ∨ q.bytes.length = 0)
theorem may_used {q : Rq} (h : MayQ q) : SameU q := by
  obtain ⟨k, ix, nb, ps, ln, who, till, bs⟩ := q
  unfold MayQ at h
  unfold SameU usedQ
  simp only at h ⊢
  rcases h with ⟨rfl, rfl, rfl, rfl, rfl, rfl, hb⟩ | ⟨rfl, rfl, rfl, h⟩ | ⟨rfl, h1, h2, h3, h4, h5, h6, rfl, rfl, hb⟩ | ⟨rfl, rfl, rfl, rfl, h3, h4, hb⟩ | ⟨rfl, rfl, rfl, rfl, rfl, hb⟩
  · exact ⟨rfl, rfl, rfl, ⟨rfl, rfl⟩, .inr hb⟩
  · exact ⟨rfl, rfl, rfl, ⟨rfl, rfl⟩, .inl rfl⟩
  · exact ⟨rfl, rfl, rfl, ⟨rfl, rfl⟩, .inr hb⟩
  · exact ⟨rfl, rfl, rfl, ⟨rfl, rfl⟩, .inr hb⟩
  · exact ⟨rfl, rfl, rfl, ⟨rfl, rfl⟩, .inr hb⟩
theorem used_may {q : Rq} (h : SameU q) : MayQ q ↔ (q.kind = 1 ∨ q.kind = 5 ∨ (q.kind = 2 ∧ 0 ≤ q.number ∧ q.number < 255 ∧ 0 ≤ q.till ∧ q.till ≤ 1099511627776 ∧ q.bytes.length ≤ 33554432) ∨
    (q.kind = 3 ∧ 0 ≤ q.number ∧ q.number < 255 ∧ 0 ≤ q.pos ∧ q.pos ≤ 33554432 ∧ 1 ≤ q.len ∧ q.len ≤ 131072) ∨ (q.kind = 4 ∧ 0 ≤ q.till ∧ q.till ≤ 1099511627776)) := by
  obtain ⟨k, ix, nb, ps, ln, who, till, bs⟩ := q
  unfold SameU usedQ bareQ at h
  unfold MayQ
  simp only at h ⊢
  by_cases h2 : k = 2
  · subst h2
    simp only [↓reduceIte] at h
    obtain ⟨_, e1, e2, _, _⟩ := h
    constructor
    · rintro (h | h | h | h | h) <;> omega
    · rintro (h | h | h | h | h) <;> omega
  rw [if_neg h2] at h
  by_cases h3 : k = 3
  · subst h3
    simp only [↓reduceIte] at h
    obtain ⟨_, _, _, ⟨e1, e2⟩, e3⟩ := h
    constructor
    · rintro (h | h | h | h | h) <;> omega
    · rintro (h | h | h | h | h) <;> omega
  rw [if_neg h3] at h
  by_cases h4 : k = 4
  · subst h4
    simp only [↓reduceIte] at h
    obtain ⟨e0, e1, e2, _, e3⟩ := h
    constructor
    · rintro (h | h | h | h | h) <;> omega
    · rintro (h | h | h | h | h) <;> omega
  rw [if_neg h4] at h
  by_cases h5 : k = 5
  · subst h5
    simp only [↓reduceIte] at h
    obtain ⟨e0, e1, e2, ⟨_, e4⟩, e3⟩ := h
    constructor
    · rintro (h | h | h | h | h) <;> omega
    · intro _
      refine .inr (.inr (.inr (.inr ?_)))
      omega
  rw [if_neg h5] at h
  simp only at h
  obtain ⟨e0, e1, e2, ⟨e4, e5⟩, e3⟩ := h
  constructor
  · rintro (h | h | h | h | h) <;> omega
  · rintro (h | h | h | h | h) <;> omega
end Go.Proofs.Ytkdmebcfedehiaa
/- wire.mayAsk: may a request be? Printed by gens/mayask.py. -/
namespace Go.Proofs.Ytkdmebcfedehiaa
open Go.RowKit

set_option maxRecDepth 100000 in
set_option maxHeartbeats 400000 in
theorem tick_n (x : Int) (w : World) : Calls Try.prog 58 #[.int .i64 x] w fun e w' => e = .returned (.bool (decide (0 ≤ x) && decide (x ≤ 1099511627776))) ∧ w = w' := by
  by_cases h : 0 ≤ x
  · have h1 : decide (0 ≤ x) = true := by simpa using h
    rw [h1, Bool.true_and]
    go_enter Try.func58, Try.ntmps58
    go_wp2
    go_ret
    exact ⟨rfl, rfl⟩
  · have h1 : decide (0 ≤ x) = false := by simpa using h
    rw [h1, Bool.false_and]
    go_enter Try.func58, Try.ntmps58
    go_wp2
    go_ret
    exact ⟨rfl, rfl⟩
theorem wpList_load_midU {P : Program} {ops : Array Oper} {rest : List Oper} {o : Oper} {a : Act} {w : World} {Q : Exit → Act → World → Prop} (hw : Region.wanted o (yielded ops a.tmps) = true) (ty : TypeId) (x : Operand) (ho : o.op = .load ty x)
    (b k : Nat) (hx : a.eval x = .pointer (some ⟨b, k, none⟩)) (cs : List Value) (d : TypeDesc) (hc : w.rangeAt b k cs)
    (hu : P.underlying ty = some d) (hd : d.isRow = true) (hi : (P.info? ty).map (·.size) = some cs.length)
    (h : wpList P ops Q rest (a.put o.dst (.agg cs.toArray)) w) : wpList P ops Q (o :: rest) a w := by
  unfold wpList
  rw [if_pos hw]
  exact .inl (wp_load_mid ty x ho b k hx cs d hc hu hd hi h)
theorem wpList_valU {P : Program} {ops : Array Oper} {rest : List Oper} {o : Oper} {a : Act} {w w1 : World} {v : Value} {Q : Exit → Act → World → Prop} (hw : Region.wanted o (yielded ops a.tmps) = true) (hr : (execOp a.eval o).run P w = .ok (.value v) w1)
    (h : wpList P ops Q rest (a.put o.dst v) w1) : wpList P ops Q (o :: rest) a w := by
  unfold wpList
  rw [if_pos hw]
  refine .inl ?_
  unfold Oper.wp
  rw [hr, Oper.upon_value]
  exact h
theorem lease_guard : Try.prog.eqGuardType Try.prog.depth 41 = false := by kernel_rfl
theorem run_neq_lease (w : World) (ev : Operand → Value) {o : Oper} {ty : TypeId} (x y : Operand) (ho : o.op = .binOp .neq 41 x y ty) {a b c d : Int} (hx : ev x = .agg #[.int .u32 a, .int .i64 b]) (hy : ev y = .agg #[.int .u32 c, .int .i64 d]) (h : LeaseOk a b) (k : LeaseOk c d) :
    (execOp ev o).run Try.prog w = .ok (.value (.bool (!decide (a = c ∧ b = d)))) w := by
  have e := (lease_eq h k w).2
  unfold leaseV at e
  unfold execOp
  simp only [ho, hx, hy]
  simp [run_eqGuard_agg w .neq 41 x y _ _ lease_guard, e]
theorem used_ok {q : Rq} (h : LeaseOk q.who q.till) : LeaseOk (usedQ q).who (usedQ q).till := by
  obtain ⟨k, ix, nb, ps, ln, who, till, bs⟩ := q
  unfold usedQ bareQ
  simp only at h ⊢
  unfold LeaseOk at h ⊢
  repeat' split
  all_goals (simp only; omega)
theorem used_ix {q : Rq} : (usedQ q).ix = q.ix := by
  unfold usedQ bareQ
  repeat' split
  all_goals rfl
set_option maxRecDepth 100000 in
set_option maxHeartbeats 8000000 in
theorem mayAsk_n (q : Rq) (a : Option Addr) (n c : Nat) (w : World) (hx : q.ix.length = 16) (hn : q.bytes.length = n) (hok : LeaseOk q.who q.till) (hnm : n ≤ maxLen) :
    Calls Try.prog 32 #[.agg (rqC q (.slice a n c))] w fun e w' => e = .returned (.bool (decide (MayQ q))) ∧ w.grownBy w' none := by
  obtain ⟨ir, zr, hir, hirz, hirs, hz⟩ := info_req
  subst hz
  obtain ⟨U, hU⟩ : ∃ U, U = usedQ q := ⟨_, rfl⟩
  have hUx : U.ix.length = 16 := by rw [hU, used_ix]; exact hx
  have hUok : LeaseOk U.who U.till := by rw [hU]; exact used_ok hok
  obtain ⟨a2, n2, c2, hS, hn2⟩ : ∃ a2 n2 c2, usedS q (.slice a n c) = .slice a2 n2 c2 ∧ (n2 = n ↔ (q.kind = 2 ∨ n = 0)) := by
    unfold usedS
    by_cases h2 : q.kind = 2
    · rw [if_pos h2]; exact ⟨a, n, c, rfl, by simp [h2]⟩
    · rw [if_neg h2]; exact ⟨none, 0, 0, rfl, by simp [h2]; omega⟩
  have HUS := Lib.hid (fun W => used_n q a n c W hx)
  rw [← hU, hS] at HUS
  have HSM := Lib.hid (show SameU q ↔ (U.number = q.number ∧ U.pos = q.pos ∧ U.len = q.len ∧ (U.who = q.who ∧ U.till = q.till) ∧ n2 = n) from by
    unfold SameU
    rw [← hU, hn2, hn])
  have HX := Lib.hid hx
  have HUX := Lib.hid hUx
  have HOK := Lib.hid hok
  have HUOK := Lib.hid hUok
  have HNM := Lib.hid hnm
  have HNN := Lib.hid hn
  clear hx hUx hok hUok hU hS hn2 hnm hn
  go_enter Try.func32, Try.ntmps32
  go_wp2_with (first
    | (refine wpList_boxed rfl rfl (rqC q (.slice a n c)) rfl ?_; intro wb hs g hr; have G0 := Lib.hid g; have R0 := Lib.hid (show Row wb w.heap.size 43 (rqC q (.slice a n c)) from hr); clear hs g hr)
    | (refine wpList_load_row rfl 43 _ rfl w.heap.size rfl 43 (rqC q (.slice a n c)) (0, 0) _ R0.out Try.underlying43 rfl (by rw [size_req]; exact congrArg some (rq_len q _ HX.out).symm) ?_))
  refine (HUS.out wb).mono ?_
  rintro e w1 ⟨rfl, g⟩
  have G1 := Lib.hid (grownBy_trans G0.out g)
  have R1 := Lib.hid (R0.out.grown g)
  clear g
  obtain ⟨b1, hb1⟩ : ∃ b1, b1 = w.heap.size := ⟨_, rfl⟩
  rw [← hb1] at R1 ⊢
  clear hb1 R0 G0
  go_upto_region 2 with (refine wpList_fresh rfl rfl rfl rfl rfl hir hirz hirs (rqC U (.slice a2 n2 c2)) rfl rfl (by rw [rq_len U _ HUX.out]; rfl) (rq_one _ _ _ _) ?_; intro w2 hs g hr; have G2 := Lib.hid (grownBy_trans G1.out g); have R2 := Lib.hid (R1.out.grown g); have RU := Lib.hid (show Row w2 w1.heap.size 43 (rqC U (.slice a2 n2 c2)) from hr); clear hs g hr)
  obtain ⟨b3, hb3⟩ : ∃ b3, b3 = w1.heap.size := ⟨_, rfl⟩
  rw [← hb3] at RU ⊢
  clear hb3 R1
  have k0 := rq_kind R2.out
  have x0 := rq_cell R2.out HX.out 0
  have d0 := rq_cell RU.out HUX.out 0
  simp at x0 d0
  have x1 := rq_cell R2.out HX.out 1
  have d1 := rq_cell RU.out HUX.out 1
  simp at x1 d1
  have x2 := rq_cell R2.out HX.out 2
  have d2 := rq_cell RU.out HUX.out 2
  simp at x2 d2
  have x3 := rq_cell R2.out HX.out 3
  have d3 := rq_cell RU.out HUX.out 3
  simp at x3 d3
  have x4 := rq_cell R2.out HX.out 4
  have d4 := rq_cell RU.out HUX.out 4
  simp at x4 d4
  have x5 := rq_cell R2.out HX.out 5
  have d5 := rq_cell RU.out HUX.out 5
  simp at x5 d5
  by_cases e0 : U.number = q.number
  case neg =>
    have f0 : (U.number != q.number) = true := by rw [bne_iff_ne]; exact e0
    have E0 := Lib.hid e0
    clear e0
    have HD := Lib.hid (show decide (MayQ q) = false from decide_eq_false (fun h => E0.out (HSM.out.1 (may_used h)).1))
    go_wp2_with fail
    go_ret
    exact ⟨ret_bool HD.out.symm, G2.out⟩
  have f0 : (U.number != q.number) = false := by rw [bne_eq_false_iff_eq]; exact e0
  have E0 := Lib.hid e0
  clear e0
  by_cases e1 : U.pos = q.pos
  case neg =>
    have f1 : (U.pos != q.pos) = true := by rw [bne_iff_ne]; exact e1
    have E1 := Lib.hid e1
    clear e1
    have HD := Lib.hid (show decide (MayQ q) = false from decide_eq_false (fun h => E1.out (HSM.out.1 (may_used h)).2.1))
    go_wp2_with fail
    go_ret
    exact ⟨ret_bool HD.out.symm, G2.out⟩
  have f1 : (U.pos != q.pos) = false := by rw [bne_eq_false_iff_eq]; exact e1
  have E1 := Lib.hid e1
  clear e1
  by_cases e2 : U.len = q.len
  case neg =>
    have f2 : (U.len != q.len) = true := by rw [bne_iff_ne]; exact e2
    have E2 := Lib.hid e2
    clear e2
    have HD := Lib.hid (show decide (MayQ q) = false from decide_eq_false (fun h => E2.out (HSM.out.1 (may_used h)).2.2.1))
    go_wp2_with fail
    go_ret
    exact ⟨ret_bool HD.out.symm, G2.out⟩
  have f2 : (U.len != q.len) = false := by rw [bne_eq_false_iff_eq]; exact e2
  have E2 := Lib.hid e2
  clear e2
  by_cases e3 : (U.who : Int) = (q.who : Int) ∧ U.till = q.till
  case neg =>
    have f3 : decide ((U.who : Int) = (q.who : Int) ∧ U.till = q.till) = false := decide_eq_false e3
    have f3b : (!decide ((U.who : Int) = (q.who : Int) ∧ U.till = q.till)) = true := by rw [f3]; rfl
    have E3 := Lib.hid e3
    clear e3 f3
    have HD := Lib.hid (show decide (MayQ q) = false from decide_eq_false (fun h => E3.out (by have := (HSM.out.1 (may_used h)).2.2.2.1; exact ⟨congrArg (fun x : Nat => (x : Int)) this.1, this.2⟩)))
    go_wp2_with (first
      | (with_reducible show wpList _ _ _ ({ dst := some 27, op := _, type := _, pos := _, after := _, guard := _ } :: _) _ _; refine wpList_load_midU (by kernel_rfl) 41 _ rfl b3 20 rfl _ _ (rq_mid RU.out HUX.out) Try.underlying41 rfl (by rw [size_lease]; rfl) ?_)
      | (with_reducible show wpList _ _ _ ({ dst := some 29, op := _, type := _, pos := _, after := _, guard := _ } :: _) _ _; refine wpList_load_midU (by kernel_rfl) 41 _ rfl b1 20 rfl _ _ (rq_mid R2.out HX.out) Try.underlying41 rfl (by rw [size_lease]; rfl) ?_)
      | (with_reducible show wpList _ _ _ ({ dst := some 30, op := _, type := _, pos := _, after := _, guard := _ } :: _) _ _; refine wpList_valU (by kernel_rfl) (run_neq_lease _ _ (.tmp 27) (.tmp 29) rfl rfl rfl HUOK.out HOK.out) ?_; rw [f3b]))
    go_ret
    exact ⟨ret_bool HD.out.symm, G2.out⟩
  have f3b : (!decide ((U.who : Int) = (q.who : Int) ∧ U.till = q.till)) = false := by rw [decide_eq_true e3]; rfl
  have E3 := Lib.hid e3
  clear e3
  by_cases e4 : n2 = n
  case neg =>
    have f4 : ((n2 : Int) != (n : Int)) = true := by rw [bne_iff_ne]; omega
    have E4 := Lib.hid e4
    clear e4
    have HD := Lib.hid (show decide (MayQ q) = false from decide_eq_false (fun h => E4.out (HSM.out.1 (may_used h)).2.2.2.2))
    go_wp2_with (first
      | (with_reducible show wpList _ _ _ ({ dst := some 27, op := _, type := _, pos := _, after := _, guard := _ } :: _) _ _; refine wpList_load_midU (by kernel_rfl) 41 _ rfl b3 20 rfl _ _ (rq_mid RU.out HUX.out) Try.underlying41 rfl (by rw [size_lease]; rfl) ?_)
      | (with_reducible show wpList _ _ _ ({ dst := some 29, op := _, type := _, pos := _, after := _, guard := _ } :: _) _ _; refine wpList_load_midU (by kernel_rfl) 41 _ rfl b1 20 rfl _ _ (rq_mid R2.out HX.out) Try.underlying41 rfl (by rw [size_lease]; rfl) ?_)
      | (with_reducible show wpList _ _ _ ({ dst := some 30, op := _, type := _, pos := _, after := _, guard := _ } :: _) _ _; refine wpList_valU (by kernel_rfl) (run_neq_lease _ _ (.tmp 27) (.tmp 29) rfl rfl rfl HUOK.out HOK.out) ?_; rw [f3b]))
    go_ret
    exact ⟨ret_bool HD.out.symm, G2.out⟩
  have f4 : ((n2 : Int) != (n : Int)) = false := by rw [bne_eq_false_iff_eq]; omega
  have HSU := Lib.hid (HSM.out.2 ⟨E0.out, E1.out, E2.out, ⟨by have := E3.out.1; omega, E3.out.2⟩, e4⟩)
  clear e4
  go_upto_region 4 with (first
  | (with_reducible show wpList _ _ _ ({ dst := some 27, op := _, type := _, pos := _, after := _, guard := _ } :: _) _ _; refine wpList_load_midU (by kernel_rfl) 41 _ rfl b3 20 rfl _ _ (rq_mid RU.out HUX.out) Try.underlying41 rfl (by rw [size_lease]; rfl) ?_)
  | (with_reducible show wpList _ _ _ ({ dst := some 29, op := _, type := _, pos := _, after := _, guard := _ } :: _) _ _; refine wpList_load_midU (by kernel_rfl) 41 _ rfl b1 20 rfl _ _ (rq_mid R2.out HX.out) Try.underlying41 rfl (by rw [size_lease]; rfl) ?_)
  | (with_reducible show wpList _ _ _ ({ dst := some 30, op := _, type := _, pos := _, after := _, guard := _ } :: _) _ _; refine wpList_valU (by kernel_rfl) (run_neq_lease _ _ (.tmp 27) (.tmp 29) rfl rfl rfl HUOK.out HOK.out) ?_; rw [f3b]))
  obtain ⟨K, hK⟩ : ∃ K : Int, K = (q.kind : Int) := ⟨_, rfl⟩
  rw [← hK] at k0
  by_cases h1 : q.kind = 1
  · have b1 : (K == 1) = true := by rw [beq_iff_eq]; omega
    have b2 : (K == 2) = false := by rw [beq_eq_false_iff_ne]; omega
    have b3 : (K == 3) = false := by rw [beq_eq_false_iff_ne]; omega
    have b4 : (K == 4) = false := by rw [beq_eq_false_iff_ne]; omega
    have b5 : (K == 5) = false := by rw [beq_eq_false_iff_ne]; omega
    go_wp2_with fail
    go_ret
    exact ⟨ret_bool (decide_eq_true ((used_may HSU.out).2 (by have := HNN.out; omega))).symm, G2.out⟩
  by_cases h5 : q.kind = 5
  · have b1 : (K == 1) = false := by rw [beq_eq_false_iff_ne]; omega
    have b2 : (K == 2) = false := by rw [beq_eq_false_iff_ne]; omega
    have b3 : (K == 3) = false := by rw [beq_eq_false_iff_ne]; omega
    have b4 : (K == 4) = false := by rw [beq_eq_false_iff_ne]; omega
    have b5 : (K == 5) = true := by rw [beq_iff_eq]; omega
    go_wp2_with fail
    go_ret
    exact ⟨ret_bool (decide_eq_true ((used_may HSU.out).2 (by have := HNN.out; omega))).symm, G2.out⟩
  by_cases h2 : q.kind = 2
  · have b1 : (K == 1) = false := by rw [beq_eq_false_iff_ne]; omega
    have b2 : (K == 2) = true := by rw [beq_iff_eq]; omega
    have b3 : (K == 3) = false := by rw [beq_eq_false_iff_ne]; omega
    have b4 : (K == 4) = false := by rw [beq_eq_false_iff_ne]; omega
    have b5 : (K == 5) = false := by rw [beq_eq_false_iff_ne]; omega
    by_cases n1 : 0 ≤ q.number ∧ q.number < 255
    case neg =>
      have eN : (decide (0 ≤ q.number) && decide (q.number < 255)) = false := by rw [Bool.eq_false_iff, ne_eq, Bool.and_eq_true, decide_eq_true_eq, decide_eq_true_eq]; exact n1
      go_wp2_with (first | (go_at_call 26; refine (number_n q.number _).mono ?_; rintro e w' ⟨rfl, rfl⟩; rw [eN]) | (go_at_call 58; refine (tick_n q.till _).mono ?_; rintro e w' ⟨rfl, rfl⟩; rw [eT]))
      go_ret
      exact ⟨ret_bool (decide_eq_false (fun h => by have := (used_may HSU.out).1 h; have := HNN.out; omega)).symm, G2.out⟩
    have eN : (decide (0 ≤ q.number) && decide (q.number < 255)) = true := by rw [Bool.and_eq_true, decide_eq_true_eq, decide_eq_true_eq]; exact n1
    by_cases t1 : 0 ≤ q.till ∧ q.till ≤ 1099511627776
    case neg =>
      have eT : (decide (0 ≤ q.till) && decide (q.till ≤ 1099511627776)) = false := by rw [Bool.eq_false_iff, ne_eq, Bool.and_eq_true, decide_eq_true_eq, decide_eq_true_eq]; exact t1
      go_wp2_with (first | (go_at_call 26; refine (number_n q.number _).mono ?_; rintro e w' ⟨rfl, rfl⟩; rw [eN]) | (go_at_call 58; refine (tick_n q.till _).mono ?_; rintro e w' ⟨rfl, rfl⟩; rw [eT]))
      go_ret
      exact ⟨ret_bool (decide_eq_false (fun h => by have := (used_may HSU.out).1 h; have := HNN.out; omega)).symm, G2.out⟩
    have eT : (decide (0 ≤ q.till) && decide (q.till ≤ 1099511627776)) = true := by rw [Bool.and_eq_true, decide_eq_true_eq, decide_eq_true_eq]; exact t1
    by_cases m1 : n ≤ 33554432
    case neg =>
      have eM : decide ((n : Int) ≤ 33554432) = false := decide_eq_false (by omega)
      have eM2 : decide (n ≤ 33554432) = false := decide_eq_false m1
      go_wp2_with (first | (go_at_call 26; refine (number_n q.number _).mono ?_; rintro e w' ⟨rfl, rfl⟩; rw [eN]) | (go_at_call 58; refine (tick_n q.till _).mono ?_; rintro e w' ⟨rfl, rfl⟩; rw [eT]))
      go_ret
      exact ⟨ret_bool (decide_eq_false (fun h => by have := (used_may HSU.out).1 h; have := HNN.out; omega)).symm, G2.out⟩
    have eM : decide ((n : Int) ≤ 33554432) = true := decide_eq_true (by omega)
    have eM2 : decide (n ≤ 33554432) = true := decide_eq_true m1
    go_wp2_with (first | (go_at_call 26; refine (number_n q.number _).mono ?_; rintro e w' ⟨rfl, rfl⟩; rw [eN]) | (go_at_call 58; refine (tick_n q.till _).mono ?_; rintro e w' ⟨rfl, rfl⟩; rw [eT]))
    go_ret
    exact ⟨ret_bool (decide_eq_true ((used_may HSU.out).2 (by have := HNN.out; omega))).symm, G2.out⟩
  by_cases h3 : q.kind = 3
  · have b1 : (K == 1) = false := by rw [beq_eq_false_iff_ne]; omega
    have b2 : (K == 2) = false := by rw [beq_eq_false_iff_ne]; omega
    have b3 : (K == 3) = true := by rw [beq_iff_eq]; omega
    have b4 : (K == 4) = false := by rw [beq_eq_false_iff_ne]; omega
    have b5 : (K == 5) = false := by rw [beq_eq_false_iff_ne]; omega
    by_cases n1 : 0 ≤ q.number ∧ q.number < 255
    case neg =>
      have eN : (decide (0 ≤ q.number) && decide (q.number < 255)) = false := by rw [Bool.eq_false_iff, ne_eq, Bool.and_eq_true, decide_eq_true_eq, decide_eq_true_eq]; exact n1
      go_wp2_with (go_at_call 26; refine (number_n q.number _).mono ?_; rintro e w' ⟨rfl, rfl⟩; rw [eN])
      go_ret
      exact ⟨ret_bool (decide_eq_false (fun h => by have := (used_may HSU.out).1 h; have := HNN.out; omega)).symm, G2.out⟩
    have eN : (decide (0 ≤ q.number) && decide (q.number < 255)) = true := by rw [Bool.and_eq_true, decide_eq_true_eq, decide_eq_true_eq]; exact n1
    by_cases p1 : 0 ≤ q.pos
    case neg =>
      have eP : decide (0 ≤ q.pos) = false := decide_eq_false (by omega)
      go_wp2_with (go_at_call 26; refine (number_n q.number _).mono ?_; rintro e w' ⟨rfl, rfl⟩; rw [eN])
      go_ret
      exact ⟨ret_bool (decide_eq_false (fun h => by have := (used_may HSU.out).1 h; have := HNN.out; omega)).symm, G2.out⟩
    have eP : decide (0 ≤ q.pos) = true := decide_eq_true (by omega)
    by_cases p2 : q.pos ≤ 33554432
    case neg =>
      have eP2 : decide (q.pos ≤ 33554432) = false := decide_eq_false (by omega)
      go_wp2_with (go_at_call 26; refine (number_n q.number _).mono ?_; rintro e w' ⟨rfl, rfl⟩; rw [eN])
      go_ret
      exact ⟨ret_bool (decide_eq_false (fun h => by have := (used_may HSU.out).1 h; have := HNN.out; omega)).symm, G2.out⟩
    have eP2 : decide (q.pos ≤ 33554432) = true := decide_eq_true (by omega)
    by_cases l1 : 1 ≤ q.len
    case neg =>
      have eL : decide (1 ≤ q.len) = false := decide_eq_false (by omega)
      go_wp2_with (go_at_call 26; refine (number_n q.number _).mono ?_; rintro e w' ⟨rfl, rfl⟩; rw [eN])
      go_ret
      exact ⟨ret_bool (decide_eq_false (fun h => by have := (used_may HSU.out).1 h; have := HNN.out; omega)).symm, G2.out⟩
    have eL : decide (1 ≤ q.len) = true := decide_eq_true (by omega)
    by_cases l2 : q.len ≤ 131072
    case neg =>
      have eL2 : decide (q.len ≤ 131072) = false := decide_eq_false (by omega)
      go_wp2_with (go_at_call 26; refine (number_n q.number _).mono ?_; rintro e w' ⟨rfl, rfl⟩; rw [eN])
      go_ret
      exact ⟨ret_bool (decide_eq_false (fun h => by have := (used_may HSU.out).1 h; have := HNN.out; omega)).symm, G2.out⟩
    have eL2 : decide (q.len ≤ 131072) = true := decide_eq_true (by omega)
    go_wp2_with (go_at_call 26; refine (number_n q.number _).mono ?_; rintro e w' ⟨rfl, rfl⟩; rw [eN])
    go_ret
    exact ⟨ret_bool (decide_eq_true ((used_may HSU.out).2 (by have := HNN.out; omega))).symm, G2.out⟩
  by_cases h4 : q.kind = 4
  · have b1 : (K == 1) = false := by rw [beq_eq_false_iff_ne]; omega
    have b2 : (K == 2) = false := by rw [beq_eq_false_iff_ne]; omega
    have b3 : (K == 3) = false := by rw [beq_eq_false_iff_ne]; omega
    have b4 : (K == 4) = true := by rw [beq_iff_eq]; omega
    have b5 : (K == 5) = false := by rw [beq_eq_false_iff_ne]; omega
    by_cases t1 : 0 ≤ q.till ∧ q.till ≤ 1099511627776
    case neg =>
      have eT : (decide (0 ≤ q.till) && decide (q.till ≤ 1099511627776)) = false := by rw [Bool.eq_false_iff, ne_eq, Bool.and_eq_true, decide_eq_true_eq, decide_eq_true_eq]; exact t1
      go_wp2_with (go_at_call 58; refine (tick_n q.till _).mono ?_; rintro e w' ⟨rfl, rfl⟩; rw [eT])
      go_ret
      exact ⟨ret_bool (decide_eq_false (fun h => by have := (used_may HSU.out).1 h; have := HNN.out; omega)).symm, G2.out⟩
    have eT : (decide (0 ≤ q.till) && decide (q.till ≤ 1099511627776)) = true := by rw [Bool.and_eq_true, decide_eq_true_eq, decide_eq_true_eq]; exact t1
    go_wp2_with (go_at_call 58; refine (tick_n q.till _).mono ?_; rintro e w' ⟨rfl, rfl⟩; rw [eT])
    go_ret
    exact ⟨ret_bool (decide_eq_true ((used_may HSU.out).2 (by have := HNN.out; omega))).symm, G2.out⟩
  have b1 : (K == 1) = false := by rw [beq_eq_false_iff_ne]; omega
  have b2 : (K == 2) = false := by rw [beq_eq_false_iff_ne]; omega
  have b3 : (K == 3) = false := by rw [beq_eq_false_iff_ne]; omega
  have b4 : (K == 4) = false := by rw [beq_eq_false_iff_ne]; omega
  have b5 : (K == 5) = false := by rw [beq_eq_false_iff_ne]; omega
  go_wp2_with fail
  go_ret
  exact ⟨ret_bool (decide_eq_false (fun h => by have := (used_may HSU.out).1 h; have := HNN.out; omega)).symm, G2.out⟩

end Go.Proofs.Ytkdmebcfedehiaa
/- Requests that came in. Printed by gens/reqrd.py. -/
namespace Go.Proofs.Ytkdmebcfedehiaa
open Go.ChangeShapes Go.WideShapes Go.ChangeAt Go.RowKit

theorem u32_of_wf {n : Int} (h : (Lit.int .u32 n).wf = true) : ∃ m : Nat, n = (m : Int) ∧ m < 4294967296 := by
  have h' : 0 ≤ n ∧ n ≤ 4294967295 := by simpa [Lit.wf, IntKind.min, IntKind.max, IntKind.signed, IntKind.bits] using h
  exact ⟨n.toNat, by omega, by omega⟩
section
variable {H : Type} {enc : TypeId × Value → H} {P : Program} {w : World} {base : Nat} {spare : Nat → Bool} {held : Bool}
theorem allb_listQ {cs : List Value} (h : ∀ v ∈ cs, ∃ b : UInt8, v = bval b) : ∃ l : List UInt8, cs = l.map bval := by
  induction cs with
  | nil => exact ⟨[], rfl⟩
  | cons v cs ih =>
    obtain ⟨b, rfl⟩ := h v (by simp)
    obtain ⟨l, rfl⟩ := ih (fun u hu => h u (by simp [hu]))
    exact ⟨b :: l, rfl⟩
theorem allb_oneQ {n : Nat} {t e : TypeId} {fuel : Nat} {cs : List Value} {x : DataW H × List MemPlace} (ht : P.underlying t = some (.array n e)) (he : P.underlying e = some (.int .u8)) (hce : P.cellsOf e = 1) (hC : P.cellsOf t = n)
    (h : DataW.trod enc P w base spare held fuel t cs = some x) : ∀ v ∈ cs, ∃ b : UInt8, v = bval b := by
  intro v hv
  obtain ⟨xs, m, _, _, hl, hxl, hi⟩ := DataW.trod_array ht h
  obtain ⟨i, hil, rfl⟩ := List.getElem_of_mem hv
  have h1 := hi i (by omega)
  rw [hce, Nat.mul_one, List.drop_eq_getElem_cons hil, List.getElem?_eq_getElem (by omega)] at h1
  have h2 : DataW.trod enc P w base spare held m e [cs[i]] = some (xs[i]'(by omega)) := h1
  obtain ⟨a, ea, _, wa⟩ := DataW.trod_int he h2
  obtain ⟨b, rfl⟩ := byte_of_wf wa
  injection ea with ea
  exact ⟨b, ea⟩
set_option maxRecDepth 100000 in
theorem lease_trod {fuel : Nat} {x y : Value} {z : DataW H × List MemPlace} (h : DataW.trod enc Try.prog w base spare held fuel 41 [x, y] = some z) : ∃ (m : Nat) (t : Int), x = .int .u32 (m : Int) ∧ y = .int .i64 t ∧ LeaseOk m t := by
  obtain ⟨xs, m, _, hx, _, hxl, hi⟩ := DataW.trod_struct Try.underlying41 h
  have h0 := hi 0 _ rfl
  have h1 := hi 1 _ rfl
  have hxl2 : xs.length = 2 := hxl
  match xs, hxl2 with
  | [y0, y1], _ =>
    have t0 : DataW.trod enc Try.prog w base spare held m 39 [x] = some (y0.1, y0.2) := h0
    have t1 : DataW.trod enc Try.prog w base spare held m 3 [y] = some (y1.1, y1.2) := h1
    obtain ⟨a, ea, _, wa⟩ := DataW.trod_int Try.underlying39 t0
    obtain ⟨b, eb, _, wb⟩ := DataW.trod_int Try.underlying3 t1
    injection ea with ea
    injection eb with eb
    obtain ⟨k, rfl, hk⟩ := u32_of_wf wa
    have hb := i64_of_wf wb
    exact ⟨k, b, ea, eb, by unfold LeaseOk; omega⟩
set_option maxRecDepth 100000 in
/-- a request's cells -/
theorem rd_req {fuel : Nat} {cs : List Value} {d : DataW H} {p : List MemPlace} (hl : cs.length = 23) (hf : DataW.trod enc Try.prog w base spare held fuel 43 cs = some (d, p)) :
    ∃ (q : Rq) (a : Option Addr) (n c : Nat), cs = (rqC q (.slice a n c)).toList ∧ q.kind < 256 ∧ q.ix.length = 16 ∧ BLies w a q.bytes ∧ q.bytes.length = n ∧ n ≤ c ∧ c ≤ maxLen ∧ LeaseOk q.who q.till ∧ n + 1 ≤ Rows.uptoBulk d := by
  obtain ⟨xs, m, _, hx, _, hxl, hi⟩ := DataW.trod_struct Try.underlying43 hf
  have h0 := hi 0 _ rfl
  have h1 := hi 1 _ rfl
  have h2 := hi 2 _ rfl
  have h3 := hi 3 _ rfl
  have h4 := hi 4 _ rfl
  have h5 := hi 5 _ rfl
  have h6 := hi 6 _ rfl
  have hxl7 : xs.length = 7 := hxl
  match cs, hl with
  | [v0, v1, v2, v3, v4, v5, v6, v7, v8, v9, v10, v11, v12, v13, v14, v15, v16, v17, v18, v19, v20, v21, v22], _ =>
    match xs, hxl7 with
    | [y0, y1, y2, y3, y4, y5, y6], _ =>
      have t0 : DataW.trod enc Try.prog w base spare held m 36 [v0] = some (y0.1, y0.2) := h0
      have t1 : DataW.trod enc Try.prog w base spare held m 38 [v1, v2, v3, v4, v5, v6, v7, v8, v9, v10, v11, v12, v13, v14, v15, v16] = some (y1.1, y1.2) := h1
      have t2 : DataW.trod enc Try.prog w base spare held m 3 [v17] = some (y2.1, y2.2) := h2
      have t3 : DataW.trod enc Try.prog w base spare held m 3 [v18] = some (y3.1, y3.2) := h3
      have t4 : DataW.trod enc Try.prog w base spare held m 3 [v19] = some (y4.1, y4.2) := h4
      have t5 : DataW.trod enc Try.prog w base spare held m 41 [v20, v21] = some (y5.1, y5.2) := h5
      have t6 : DataW.trod enc Try.prog w base spare held m 24 [v22] = some (y6.1, y6.2) := h6
      have b6 : Rows.uptoBulk y6.1 ≤ Rows.uptoBulk d := by
        injection hx with hx _
        rw [hx]
        simp only [Rows.uptoBulk]
        have := bulk_mem (l := [y0, y1, y2, y3, y4, y5, y6].map (·.1)) (d := y6.1) (by simp)
        omega
      obtain ⟨n0, e0, _, w0⟩ := DataW.trod_int Try.underlying36 t0
      injection e0 with e0 _
      obtain ⟨k, rfl⟩ := byte_of_wf w0
      obtain ⟨ix, hix⟩ := allb_listQ (allb_oneQ Try.underlying38 Try.underlying5 (by kernel_rfl) (by kernel_rfl) t1)
      obtain ⟨n2, e2, _, w2⟩ := DataW.trod_int Try.underlying3 t2
      obtain ⟨n3, e3, _, w3⟩ := DataW.trod_int Try.underlying3 t3
      obtain ⟨n4, e4, _, w4⟩ := DataW.trod_int Try.underlying3 t4
      injection e2 with e2 _
      injection e3 with e3 _
      injection e4 with e4 _
      obtain ⟨who, til, e5, e5', hok⟩ := lease_trod t5
      have hs : ∃ a ln c, v22 = .slice a ln c := by
        rcases open_ints Try.underlying24 Try.underlying5 (by kernel_rfl) t6 with ⟨hcs, _⟩ | ⟨x, len', cap', zs, hcs, _⟩
        · injection hcs with hcs; exact ⟨_, _, _, hcs⟩
        · injection hcs with hcs; exact ⟨_, _, _, hcs⟩
      obtain ⟨a, n, c, rfl⟩ := hs
      obtain ⟨bs, r1, r2, r3, r4, r5⟩ := rd_bytes t6
      have hixl := congrArg List.length hix
      rw [List.length_map] at hixl
      refine ⟨⟨k.toNat, ix, n2, n3, n4, who, til, bs⟩, a, n, c, ?_, k.toNat_lt, hixl.symm, r2, r1, r4, r5, hok, by omega⟩
      unfold rqC
      simp only []
      rw [← hix, e0, e2, e3, e4, e5, e5']
      rfl
set_option maxRecDepth 100000 in
theorem open_req {r : Reach} {b0 : Nat} {v : Value} {d : DataW H} {p : List MemPlace}
    (hv : Value.okWide Try.prog w r b0 43 v) (h : DataW.Trod enc Try.prog w base spare held 43 v d p) :
    ∃ (q : Rq) (a : Option Addr) (n c : Nat), v = .agg (rqC q (.slice a n c)) ∧ q.kind < 256 ∧ q.ix.length = 16 ∧ BLies w a q.bytes ∧ q.bytes.length = n ∧ n ≤ c ∧ c ≤ maxLen ∧ LeaseOk q.who q.till ∧ n + 1 ≤ Rows.uptoBulk d := by
  obtain ⟨cs, rfl, hs⟩ := okWide_struct Try.underlying43 hv
  have hs3 : cs.size = 23 := hs
  obtain ⟨fuel, hf⟩ := h
  have hf : DataW.trod enc Try.prog w base spare held fuel 43 cs.toList = some (d, p) := hf
  obtain ⟨q, a, n, c, e, h⟩ := rd_req (by simpa using hs3) hf
  refine ⟨q, a, n, c, ?_, h⟩
  obtain ⟨cs⟩ := cs
  have e' : cs = _ := e
  rw [e']
end
end Go.Proofs.Ytkdmebcfedehiaa
/- A region that draws its order, in which one operation that makes memory (told by a letter) may come up anywhere among a chain of calls: whatever the order, one end. -/
namespace Go.Proofs.Ytkdmebcfedehiaa
open Go.RowKit

section
variable {P : Program} {ops : Array Oper} {Q : Exit → Act → World → Prop} {md : Region.Mode} {L : Nat} {X : Type}

/-- from every world of the condition the operation comes to a letter's value, in grown memory of which T tells -/
def YI (P : Program) (ops : Array Oper) (S : World → Prop) (v : X → Value) (T : X → World → Prop) (o : Oper) (a : Act) : Prop :=
  Region.wanted o (yielded ops a.tmps) = true ∧ ∀ w, S w → ∃ x w', (execOp a.eval o).run P w = .ok (.value (v x)) w' ∧ w.grownBy w' none ∧ T x w'
theorem YI.of {S : World → Prop} {v : X → Value} {T : X → World → Prop} {o : Oper} {a a' : Act} (hy : YI P ops S v T o a) (he : execOp a'.eval o = execOp a.eval o)
    (hw : Region.wanted o (yielded ops a'.tmps) = Region.wanted o (yielded ops a.tmps)) : YI P ops S v T o a' := by
  unfold YI at *; rw [he, hw]; exact hy
theorem YI.sub {S S' : World → Prop} {v : X → Value} {T : X → World → Prop} {o : Oper} {a : Act} (hy : YI P ops S v T o a) (h : ∀ w, S' w → S w) : YI P ops S' v T o a :=
  ⟨hy.1, fun w hw => hy.2 w (h w hw)⟩

def wpZ (P : Program) (md : Region.Mode) (ops : Array Oper) (Q : Exit → Act → World → Prop) (L i : Nat) (oi : Oper) (v : X → Value) (T : X → World → Prop) : Nat → (World → Prop) → Array Bool → Act → Prop
  | 0, _, _, _ => False
  | n + 1, S, listed, a =>
    (Region.ready md ops listed = [i] ∧ ∀ x, wpX P md ops Q L (n + 1) (fun u => S u ∧ T x u) (listed.setIfInBounds i true) (a.put oi.dst (v x))) ∨
    (∃ k ok, ops[k]? = some ok ∧ k ≠ i ∧ k ≠ L ∧ oi.apart ops ok = true ∧ (∀ j ∈ Region.ready md ops listed, j = i ∨ j = k) ∧ Region.ready md ops (listed.setIfInBounds i true) = [k] ∧
      ∀ w, S w → wpOp P ops Q k (fun a' w' => w.grownBy w' none ∧ ∃ S' : World → Prop, S' w' ∧ (∀ w, S' w → S w) ∧ Clo S' ∧ wpZ P md ops Q L i oi v T n S' (listed.setIfInBounds k true) a') a w)

/-- the other way round: what comes of an operation when a value that it does not look at has been put -/
theorem wpZ_put {j : Nat} {oi oj : Oper} {u0 : Value} (hj : ops[j]? = some oj) (hap : oi.apart ops oj = true) (hsj : ∀ cs b, oj.op ≠ .select cs b)
    (hQ : ∀ c a w, Q (.panic c) a w → Q (.panic c) (a.put oi.dst u0) w) {K : Act → World → Prop} {a : Act} {w : World}
    (h : wpOp P ops Q j K a w) : wpOp P ops Q j (fun a' w' => ∃ a0, a' = a0.put oi.dst u0 ∧ K a0 w') (a.put oi.dst u0) w := by
  obtain ⟨h1, h2, h3⟩ := Oper.apart_spec hap
  unfold Go.wpOp at h ⊢
  simp only [hj] at h ⊢
  rw [wanted_put oj a oi.dst u0 h1]
  by_cases hw : Region.wanted oj (yielded ops a.tmps) = true
  · rw [if_pos hw] at h ⊢
    rcases h with h | ⟨hasks, hlets⟩
    · refine .inl ?_
      unfold Oper.wp at h ⊢
      rw [execOp_put oj hsj a oi.dst u0 h1]
      generalize (execOp a.eval oj).run P w = r at h ⊢
      cases r with
      | ok n w' =>
        cases n <;> simp only [Oper.upon] at h ⊢
        case value u => exact ⟨_, Act.put_comm a u0 u h2, h⟩
        case skip => exact ⟨_, Act.put_comm a u0 undef h2, h⟩
        case defer d => exact ⟨_, by rw [Act.put_defers, Act.put_comm _ u0 undef h2], h⟩
        case enter f args =>
          refine Calls.mono h fun e w'' he => ?_
          cases e with
          | returned u => exact ⟨_, Act.put_comm a u0 u h2, he⟩
          | panicked c => exact hQ _ _ _ he
          | outgrown => exact he
        case row row args => exact Rows.mono h fun u w'' he => ⟨_, Act.put_comm a u0 u h2, he⟩
      | halt x w' =>
        cases x <;> simp only [Oper.upon] at h ⊢
        case panic u => exact hQ _ _ _ h
    · exact .inr ⟨by unfold Oper.asks at hasks ⊢; rw [execOp_put oj hsj a oi.dst u0 h1]; exact hasks, hlets⟩
  · rw [if_neg hw] at h ⊢
    exact ⟨_, Act.put_comm a u0 undef h2, h⟩
theorem wpZ_after {i : Nat} {oi : Oper} {v : X → Value} {T : X → World → Prop} (hT : ∀ x, Clo (T x)) (hsel : ∀ (j : Nat) (o : Oper) cs b, ops[j]? = some o → o.op ≠ .select cs b)
    (hQ : ∀ c a w u, Q (.panic c) a w → Q (.panic c) (a.put oi.dst u) w) (x : X) : ∀ (n : Nat) (S : World → Prop) (listed : Array Bool) (a : Act), wpZ P md ops Q L i oi v T n S listed a →
      wpX P md ops Q L n (fun u => S u ∧ T x u) (listed.setIfInBounds i true) (a.put oi.dst (v x)) := by
  intro n
  induction n with
  | zero => intro S listed a h; exact h.elim
  | succ n ih =>
    intro S listed a h
    rcases h with ⟨_, h⟩ | ⟨k, ok, hk, hki, hkL, hap, hall, hr, h⟩
    · exact h x
    · refine ⟨by rw [hr]; simp, fun j hj w hS => ?_⟩
      rw [hr] at hj
      obtain rfl : j = k := by simpa using hj
      refine wpOp_mono (fun a' w' h3 => ?_) (wpZ_put (u0 := v x) hk hap (fun cs b => hsel j ok cs b hk) (fun c a w => hQ c a w (v x)) (h w hS.1))
      obtain ⟨a0, rfl, hg, S', hs', hsub, hclo', hz⟩ := h3
      rw [if_neg hkL]
      refine ⟨fun u => S' u ∧ T x u, ⟨hs', hT x _ _ hS.2 hg⟩, fun u hu => ⟨hsub u hu.1, hu.2⟩, fun u u' hu hg => ⟨hclo' _ _ hu.1 hg, hT x _ _ hu.2 hg⟩, ?_⟩
      rw [Array.setIfInBounds_comm _ _ (Ne.symm hki)]
      exact ih S' _ a0 hz
theorem wpZ_run {i : Nat} {oi : Oper} {v : X → Value} {T : X → World → Prop} (hi : ops[i]? = some oi) (hiL : i ≠ L) (hT : ∀ x, Clo (T x)) (hsel : ∀ (j : Nat) (o : Oper) cs b, ops[j]? = some o → o.op ≠ .select cs b)
    (hQ : ∀ c a w u, Q (.panic c) a w → Q (.panic c) (a.put oi.dst u) w) : ∀ (n : Nat) (S : World → Prop) (listed : Array Bool) (a : Act), Clo S → i ∈ Region.ready md ops listed → YI P ops S v T oi a → wpZ P md ops Q L i oi v T n S listed a →
      wpX P md ops Q L (n + 1) S listed a := by
  intro n
  induction n with
  | zero => intro S listed a _ _ _ h; exact h.elim
  | succ n ih =>
    intro S listed a hclo hir hy h
    refine ⟨fun h => (by rw [h] at hir; cases hir), fun j hj w hS => ?_⟩
    have hcase : j = i ∨ ∃ ok, ops[j]? = some ok ∧ j ≠ i ∧ j ≠ L ∧ oi.apart ops ok = true ∧ ∀ w, S w → wpOp P ops Q j (fun a' w' => w.grownBy w' none ∧ ∃ S' : World → Prop, S' w' ∧ (∀ w, S' w → S w) ∧ Clo S' ∧ wpZ P md ops Q L i oi v T n S' (listed.setIfInBounds j true) a') a w := by
      rcases h with ⟨hr, _⟩ | ⟨k, ok, hk, hki, hkL, hap, hall, hr, h⟩
      · rw [hr] at hj
        exact .inl (by simpa using hj)
      · rcases hall j hj with rfl | rfl
        · exact .inl rfl
        · exact .inr ⟨ok, hk, hki, hkL, hap, h⟩
    rcases hcase with rfl | ⟨ok, hk, hki, hkL, hap, hrun⟩
    · unfold wpOp
      simp only [hi, hy.1, if_true]
      refine .inl ?_
      unfold Oper.wp
      obtain ⟨x, w', hrun, hg, ht⟩ := hy.2 w hS
      rw [hrun, Oper.upon_value, if_neg hiL]
      exact ⟨fun u => S u ∧ T x u, ⟨hclo _ _ hS hg, ht⟩, fun u hu => hu.1, fun u u' hu hg => ⟨hclo _ _ hu.1 hg, hT x _ _ hu.2 hg⟩, wpZ_after hT hsel hQ x _ S listed a h⟩
    · have h1 := hrun w hS
      obtain ⟨h1', h2', h3'⟩ := Oper.apart_spec hap
      have keep : ∀ (a : Act) (u : Value), YI P ops S v T oi a → YI P ops S v T oi (a.put ok.dst u) := fun a u hy => hy.of (execOp_put oi (fun cs b => hsel i oi cs b hi) a ok.dst u h3') (wanted_put oi a ok.dst u h3')
      have h2 : wpOp P ops Q j (fun a' w' => YI P ops S v T oi a' ∧ w.grownBy w' none ∧ ∃ S' : World → Prop, S' w' ∧ (∀ w, S' w → S w) ∧ Clo S' ∧ wpZ P md ops Q L i oi v T n S' (listed.setIfInBounds j true) a') a w := by
        unfold Go.wpOp at h1 ⊢
        simp only [hk] at h1 ⊢
        by_cases hw : Region.wanted ok (yielded ops a.tmps) = true
        · rw [if_pos hw] at h1 ⊢
          rcases h1 with h1 | h1
          · refine .inl ?_
            unfold Oper.wp at h1 ⊢
            generalize (execOp a.eval ok).run P w = r at h1 ⊢
            cases r with
            | ok n w' =>
              cases n <;> simp only [Oper.upon] at h1 ⊢
              case value u => exact ⟨keep a u hy, h1⟩
              case skip => exact ⟨keep a _ hy, h1⟩
              case defer d => exact ⟨(keep { a with defers := d :: a.defers } undef (hy.of rfl rfl)), h1⟩
              case enter f args =>
                refine Calls.mono h1 fun e w'' he => ?_
                cases e with
                | returned u => exact ⟨keep a u hy, he⟩
                | panicked c => exact he
                | outgrown => exact he
              case row row args => exact Rows.mono h1 fun u w'' he => ⟨keep a u hy, he⟩
            | halt x w' =>
              cases x <;> simp only [Oper.upon] at h1 ⊢
              case panic u => exact h1
          · exact .inr h1
        · rw [if_neg hw] at h1 ⊢
          exact ⟨keep a _ hy, h1⟩
      refine wpOp_mono (fun a' w' h3 => ?_) h2
      rw [if_neg hkL]
      obtain ⟨hya, hg, S', hs', hsub, hclo', hz⟩ := h3
      exact ⟨S', hs', hsub, hclo', ih S' _ a' hclo' (ready_mono hir (Ne.symm hki)) (hya.sub hsub) hz⟩

/-- number i, of which a letter is told, may come up anywhere from here on -/
theorem wpX_float (i : Nat) {oi : Oper} {v : X → Value} {T : X → World → Prop} {S : World → Prop} {n : Nat} {listed : Array Bool} {a : Act} (hclo : Clo S) (hi : ops[i]? = some oi) (hiL : (i == L) = false) (hs : Region.noSelect ops = true) (hr : (Region.ready md ops listed).contains i = true)
    (hQ : ∀ c a w, ¬ Q (.panic c) a w) (hT : ∀ x, Clo (T x)) (hy : YI P ops S v T oi a) (h : wpZ P md ops Q L i oi v T n S listed a) : wpX P md ops Q L (n + 1) S listed a :=
  wpZ_run hi (by simpa using hiL) hT (Region.noSelect_spec hs) (fun c a w u h => absurd h (hQ c a w)) n S listed a hclo (by simpa using hr) hy h
/-- one of the chain is carried out -/
theorem wpZ_step {i : Nat} {oi : Oper} {v : X → Value} {T : X → World → Prop} (k : Nat) {S : World → Prop} {o : Oper} {n : Nat} {listed : Array Bool} {a : Act} (ho : ops[k]? = some o) (hki : (k == i) = false) (hkL : (k == L) = false) (hap : oi.apart ops o = true)
    (hall : ((Region.ready md ops listed).all fun j => j == i || j == k) = true) (hr : Region.ready md ops (listed.setIfInBounds i true) = [k]) (hw : Region.wanted o (yielded ops a.tmps) = true)
    (h : ∀ w, S w → ∀ K : Act → World → Prop, (∀ (S' : World → Prop) a' w', w.grownBy w' none → S' w' → (∀ w, S' w → S w) → Clo S' → wpZ P md ops Q L i oi v T n S' (listed.setIfInBounds k true) a' → K a' w') → o.wp P a w K Q) : wpZ P md ops Q L i oi v T (n + 1) S listed a := by
  refine .inr ⟨k, o, ho, by simpa using hki, by simpa using hkL, hap, fun j hj => ?_, hr, fun w hS => ?_⟩
  · have := List.all_eq_true.1 hall j hj
    simpa using this
  · unfold wpOp
    simp only [ho, hw, if_true]
    exact .inl (h w hS _ fun S' a' w' h0 h1 h2 h3 h4 => ⟨h0, S', h1, h2, h3, h4⟩)
/-- none but number i is left to come up: its letter is told -/
theorem wpZ_end {i : Nat} {oi : Oper} {v : X → Value} {T : X → World → Prop} {S : World → Prop} {n : Nat} {listed : Array Bool} {a : Act} (hr : Region.ready md ops listed = [i])
    (h : ∀ x, wpX P md ops Q L (n + 1) (fun u => S u ∧ T x u) (listed.setIfInBounds i true) (a.put oi.dst (v x))) : wpZ P md ops Q L i oi v T (n + 1) S listed a := .inl ⟨hr, h⟩
end
end Go.Proofs.Ytkdmebcfedehiaa
